/- Blocks differ. Walks: asset.Light, umbraref15.Light, texel.Color, lamp. Structs with bools compared. -/
import Derived.Test.YtjhnkpapbjkbcaaGoA
import Derived.Test.YtjhnkpapbjkbcaaNO
import Derived.Test.YtjhnkpapbjkbcaaNK
import Derived.Test.YtjhnkpapbjkbcaaGoEq
namespace Go.Proofs.Ytjhnkpapbjkbcaa
open Go.RowKit Go.Sort

theorem St.ne {w0 w : World} {L : List Blk} (h : St w0 L w) (i j : Nat) {g g' : Nat} {c c' : Array Value} {T T' : TypeId} {fr fr' : Nat × Nat} {own own' : Bool} (hi : L[i]? = some ⟨g, c, T, fr, own⟩) (hj : L[j]? = some ⟨g', c', T', fr', own'⟩) (hij : i ≠ j) : g ≠ g' := by
  intro e
  subst e
  have h1 : (L.map Blk.g)[i]? = some g := by rw [List.getElem?_map, hi]; rfl
  have h2 : (L.map Blk.g)[j]? = some g := by rw [List.getElem?_map, hj]; rfl
  have hl : i < (L.map Blk.g).length := (List.getElem?_eq_some_iff.1 h1).1
  exact hij ((List.getElem?_inj hl h.nd).1 (h1.trans h2.symm))
end Go.Proofs.Ytjhnkpapbjkbcaa

namespace Go.Proofs.Ytjhnkpapbjkbcaa
open Go.RowKit Go.Sort
set_option linter.unusedVariables false
set_option linter.unusedSimpArgs false

def e_tri_Sub (r : Int × Int × Int) : Value := .agg #[.int .i64 r.1, .int .i64 r.2.1, .int .i64 r.2.2]
def s_tri_Sub (a : Int × Int × Int) (b : Int × Int × Int) : Int × Int × Int :=
  lt (IntKind.i64.wrap (a.1 - b.1)) fun x10 =>
  lt (IntKind.i64.wrap (a.2.1 - b.2.1)) fun x12 =>
  lt (IntKind.i64.wrap (a.2.2 - b.2.2)) fun x14 =>
  (x10, x12, x14)
set_option maxRecDepth 100000 in
set_option maxHeartbeats 4000000 in
theorem w_tri_Sub (a : Int × Int × Int) (b : Int × Int × Int) (h_a : InV a) (h_b : InV b) (w : World) : Calls Try.prog 39 #[.agg #[.int .i64 a.1, .int .i64 a.2.1, .int .i64 a.2.2], .agg #[.int .i64 b.1, .int .i64 b.2.1, .int .i64 b.2.2]] w (Ret (e_tri_Sub (s_tri_Sub a b)) w) := by
  obtain ⟨R, HR⟩ : ∃ R, e_tri_Sub (s_tri_Sub a b) = R := ⟨_, rfl⟩
  rw [HR]
  unfold s_tri_Sub at HR
  have hM0 := St.start w
  refine calls_run Try.func39 rfl ?_
  refine R_seq (R_region (S_fresh none #[.int .i64 a.1, .int .i64 a.2.1, .int .i64 a.2.2] 23 hM0 (by kernel_rfl) (fun g1 w2 hM3 => S_fresh none #[.int .i64 b.1, .int .i64 b.2.1, .int .i64 b.2.2] 23 hM3 (by kernel_rfl) (fun g4 w5 hM6 => S_fresh none #[.int .i64 0, .int .i64 0, .int .i64 0] 23 hM6 (by kernel_rfl) (fun g7 w8 hM9 => S_nil (R_seq (R_region (S_val (.pointer (some ⟨g1, 0, none⟩)) (by kernel_rfl) (S_load 2 0 (.int .i64 a.1) hM9 (by kernel_rfl) (S_val (.pointer (some ⟨g4, 0, none⟩)) (by kernel_rfl) (S_load 1 0 (.int .i64 b.1) hM9 (by kernel_rfl) (?_))))))))))))
  refine S_int (IntKind.i64.wrap (a.1 - b.1)) .i64 (by kernel_rfl) (fun x10 h11 => S_val (.pointer (some ⟨g1, 1, none⟩)) (by kernel_rfl) (S_load 2 1 (.int .i64 a.2.1) hM9 (by kernel_rfl) (S_val (.pointer (some ⟨g4, 1, none⟩)) (by kernel_rfl) (S_load 1 1 (.int .i64 b.2.1) hM9 (by kernel_rfl) (S_int (IntKind.i64.wrap (a.2.1 - b.2.1)) .i64 (by kernel_rfl) (fun x12 h13 => S_val (.pointer (some ⟨g1, 2, none⟩)) (by kernel_rfl) (S_load 2 2 (.int .i64 a.2.2) hM9 (by kernel_rfl) (S_val (.pointer (some ⟨g4, 2, none⟩)) (by kernel_rfl) (S_load 1 2 (.int .i64 b.2.2) hM9 (by kernel_rfl) (S_int (IntKind.i64.wrap (a.2.2 - b.2.2)) .i64 (by kernel_rfl) (fun x14 h15 => S_val (.agg #[.int .i64 x10, .int .i64 x12, .int .i64 x14]) (by kernel_rfl) (?_))))))))))))
  have HR := hr_lt HR h11
  have HR := hr_lt HR h13
  have HR := hr_lt HR h15
  refine S_store 0 0 #[.int .i64 x10, .int .i64 x12, .int .i64 x14] hM9 (by kernel_rfl) (fun w16 hM17 => S_nil (?_))
  refine R_ret hM17 rfl (.cons (.cell _ _ 0 0 (.agg #[.int .i64 x10, .int .i64 x12, .int .i64 x14]) (by kernel_rfl)) .nil) rfl ?_
  exact ⟨congrArg Ending.returned HR, hM17.below⟩

def P_tri_Sub (r : Int × Int × Int) : Prop := InV r
theorem i_tri_Sub (a : Int × Int × Int) (b : Int × Int × Int) (h_a : InV a) (h_b : InV b) : P_tri_Sub (s_tri_Sub a b) := by
  unfold s_tri_Sub
  exact (lt_P fun x10 h11 => (lt_P fun x12 h13 => (lt_P fun x14 h15 => (show InV (x10, x12, x14) from ⟨(wr_i64 h11), (wr_i64 h13), (wr_i64 h15)⟩))))

def e_tri_Dot (r : Int) : Value := .int .i64 r
def s_tri_Dot (a : Int × Int × Int) (b : Int × Int × Int) : Int :=
  lt (IntKind.i64.wrap (a.1 * b.1)) fun x7 =>
  lt (IntKind.i64.wrap (a.2.1 * b.2.1)) fun x9 =>
  lt (IntKind.i64.wrap (x7 + x9)) fun x11 =>
  lt (IntKind.i64.wrap (a.2.2 * b.2.2)) fun x13 =>
  lt (IntKind.i64.wrap (x11 + x13)) fun x15 =>
  x15
set_option maxRecDepth 100000 in
set_option maxHeartbeats 4000000 in
theorem w_tri_Dot (a : Int × Int × Int) (b : Int × Int × Int) (h_a : InV a) (h_b : InV b) (w : World) : Calls Try.prog 144 #[.agg #[.int .i64 a.1, .int .i64 a.2.1, .int .i64 a.2.2], .agg #[.int .i64 b.1, .int .i64 b.2.1, .int .i64 b.2.2]] w (Ret (e_tri_Dot (s_tri_Dot a b)) w) := by
  obtain ⟨R, HR⟩ : ∃ R, e_tri_Dot (s_tri_Dot a b) = R := ⟨_, rfl⟩
  rw [HR]
  unfold s_tri_Dot at HR
  have hM0 := St.start w
  refine calls_run Try.func144 rfl ?_
  refine R_seq (R_region (S_fresh none #[.int .i64 a.1, .int .i64 a.2.1, .int .i64 a.2.2] 23 hM0 (by kernel_rfl) (fun g1 w2 hM3 => S_fresh none #[.int .i64 b.1, .int .i64 b.2.1, .int .i64 b.2.2] 23 hM3 (by kernel_rfl) (fun g4 w5 hM6 => S_val (.int .i64 0) (by kernel_rfl) (S_nil (R_seq (R_region (S_val (.pointer (some ⟨g1, 0, none⟩)) (by kernel_rfl) (S_load 1 0 (.int .i64 a.1) hM6 (by kernel_rfl) (S_val (.pointer (some ⟨g4, 0, none⟩)) (by kernel_rfl) (S_load 0 0 (.int .i64 b.1) hM6 (by kernel_rfl) (?_))))))))))))
  refine S_int (IntKind.i64.wrap (a.1 * b.1)) .i64 (by kernel_rfl) (fun x7 h8 => S_val (.pointer (some ⟨g1, 1, none⟩)) (by kernel_rfl) (S_load 1 1 (.int .i64 a.2.1) hM6 (by kernel_rfl) (S_val (.pointer (some ⟨g4, 1, none⟩)) (by kernel_rfl) (S_load 0 1 (.int .i64 b.2.1) hM6 (by kernel_rfl) (S_int (IntKind.i64.wrap (a.2.1 * b.2.1)) .i64 (by kernel_rfl) (fun x9 h10 => S_int (IntKind.i64.wrap (x7 + x9)) .i64 (by kernel_rfl) (fun x11 h12 => S_val (.pointer (some ⟨g1, 2, none⟩)) (by kernel_rfl) (S_load 1 2 (.int .i64 a.2.2) hM6 (by kernel_rfl) (S_val (.pointer (some ⟨g4, 2, none⟩)) (by kernel_rfl) (S_load 0 2 (.int .i64 b.2.2) hM6 (by kernel_rfl) (S_int (IntKind.i64.wrap (a.2.2 * b.2.2)) .i64 (by kernel_rfl) (fun x13 h14 => ?_))))))))))))
  have HR := hr_lt HR h8
  have HR := hr_lt HR h10
  have HR := hr_lt HR h12
  have HR := hr_lt HR h14
  refine S_int (IntKind.i64.wrap (x11 + x13)) .i64 (by kernel_rfl) (fun x15 h16 => S_val (.int .i64 x15) (by kernel_rfl) (S_nil (?_)))
  have HR := hr_lt HR h16
  refine R_ret hM6 rfl (.cons (.tmp _ (.int .i64 x15) (by kernel_rfl)) .nil) rfl ?_
  exact ⟨congrArg Ending.returned HR, hM6.below⟩

def P_tri_Dot (r : Int) : Prop := InI r
theorem i_tri_Dot (a : Int × Int × Int) (b : Int × Int × Int) (h_a : InV a) (h_b : InV b) : P_tri_Dot (s_tri_Dot a b) := by
  unfold s_tri_Dot
  exact (lt_P fun x7 h8 => (lt_P fun x9 h10 => (lt_P fun x11 h12 => (lt_P fun x13 h14 => (lt_P fun x15 h16 => (show InI x15 from (wr_i64 h16)))))))

def e_tri_within (r : Bool) : Value := .bool r
def s_tri_within (p : Int × Int × Int) (most : Int) : Bool :=
  lt (gmax (gmax p.1 p.2.1) p.2.2) fun x4 =>
  if x4 ≤ most then
    lt (gmin (gmin p.1 p.2.1) p.2.2) fun x7 =>
    lt (IntKind.i64.wrap (0 - most)) fun x9 =>
    if x7 ≥ x9 then
      true
    else
      false
  else
    false
set_option maxRecDepth 100000 in
set_option maxHeartbeats 4000000 in
theorem w_tri_within (p : Int × Int × Int) (most : Int) (h_p : InV p) (h_most : InI most) (w : World) : Calls Try.prog 90 #[.agg #[.int .i64 p.1, .int .i64 p.2.1, .int .i64 p.2.2], .int .i64 most] w (Ret (e_tri_within (s_tri_within p most)) w) := by
  obtain ⟨R, HR⟩ : ∃ R, e_tri_within (s_tri_within p most) = R := ⟨_, rfl⟩
  rw [HR]
  unfold s_tri_within at HR
  have hM0 := St.start w
  refine calls_run Try.func90 rfl ?_
  refine R_seq (R_region (S_fresh none #[.int .i64 p.1, .int .i64 p.2.1, .int .i64 p.2.2] 23 hM0 (by kernel_rfl) (fun g1 w2 hM3 => S_val (.bool false) (by kernel_rfl) (S_nil (R_seq (R_region (S_val (.pointer (some ⟨g1, 0, none⟩)) (by kernel_rfl) (S_load 0 0 (.int .i64 p.1) hM3 (by kernel_rfl) (S_val (.pointer (some ⟨g1, 1, none⟩)) (by kernel_rfl) (S_load 0 1 (.int .i64 p.2.1) hM3 (by kernel_rfl) (S_val (.pointer (some ⟨g1, 2, none⟩)) (by kernel_rfl) (?_))))))))))))
  refine S_load 0 2 (.int .i64 p.2.2) hM3 (by kernel_rfl) (S_int (gmax (gmax p.1 p.2.1) p.2.2) .i64 (by kernel_rfl) (fun x4 h5 => S_val (.int .i64 most) (by kernel_rfl) (?_)))
  have HR := hr_lt HR h5
  refine S_dec (x4 ≤ most) (by kernel_rfl) (fun c6 => ?_) (fun c6 => ?_)
  · refine S_val (.bool true) (by kernel_rfl) (S_val (.pointer (some ⟨g1, 0, none⟩)) (by kernel_rfl) (S_load 0 0 (.int .i64 p.1) hM3 (by kernel_rfl) (S_val (.pointer (some ⟨g1, 1, none⟩)) (by kernel_rfl) (S_load 0 1 (.int .i64 p.2.1) hM3 (by kernel_rfl) (S_val (.pointer (some ⟨g1, 2, none⟩)) (by kernel_rfl) (S_load 0 2 (.int .i64 p.2.2) hM3 (by kernel_rfl) (S_int (gmin (gmin p.1 p.2.1) p.2.2) .i64 (by kernel_rfl) (fun x7 h8 => S_val (.int .i64 most) (by kernel_rfl) (S_int (IntKind.i64.wrap (0 - most)) .i64 (by kernel_rfl) (fun x9 h10 => ?_))))))))))
    have HR := hr_pos HR c6
    have HR := hr_lt HR h8
    have HR := hr_lt HR h10
    refine S_dec (x7 ≥ x9) (by kernel_rfl) (fun c11 => ?_) (fun c11 => ?_)
    · refine S_val (.bool true) (by kernel_rfl) (S_val (.bool true) (by kernel_rfl) (S_nil (?_)))
      have HR := hr_pos HR c11
      refine R_ret hM3 rfl (.cons (.tmp _ (.bool true) (by kernel_rfl)) .nil) rfl ?_
      exact ⟨congrArg Ending.returned HR, hM3.below⟩
    · refine S_val (.bool false) (by kernel_rfl) (S_val (.bool false) (by kernel_rfl) (S_nil (?_)))
      have HR := hr_neg HR c11
      refine R_ret hM3 rfl (.cons (.tmp _ (.bool false) (by kernel_rfl)) .nil) rfl ?_
      exact ⟨congrArg Ending.returned HR, hM3.below⟩
  · refine S_val (.bool false) (by kernel_rfl) (S_skip (by kernel_rfl) (S_skip (by kernel_rfl) (S_skip (by kernel_rfl) (S_skip (by kernel_rfl) (S_skip (by kernel_rfl) (S_skip (by kernel_rfl) (S_skip (by kernel_rfl) (S_skip (by kernel_rfl) (S_skip (by kernel_rfl) (S_skip (by kernel_rfl) (S_val (.bool false) (by kernel_rfl) (?_))))))))))))
    have HR := hr_neg HR c6
    refine S_val (.bool false) (by kernel_rfl) (S_nil (?_))
    refine R_ret hM3 rfl (.cons (.tmp _ (.bool false) (by kernel_rfl)) .nil) rfl ?_
    exact ⟨congrArg Ending.returned HR, hM3.below⟩

def e_tri_May (r : Bool) : Value := .bool r
def s_tri_May (o : Int × Int × Int) (d1_ : Int × Int × Int) : Bool :=
  lt (s_tri_within o 65536) fun r7 =>
  if r7 = true then
    lt (s_tri_within d1_ 131072) fun r11 =>
    if r11 = true then
      if (d1_ : Int × Int × Int) = (0, 0, 0) then
        false
      else
        true
    else
      false
  else
    false
set_option maxRecDepth 100000 in
set_option maxHeartbeats 4000000 in
theorem w_tri_May (o : Int × Int × Int) (d1_ : Int × Int × Int) (h_o : InV o) (h_d1_ : InV d1_) (w : World) : Calls Try.prog 37 #[.agg #[.int .i64 o.1, .int .i64 o.2.1, .int .i64 o.2.2], .agg #[.int .i64 d1_.1, .int .i64 d1_.2.1, .int .i64 d1_.2.2]] w (Ret (e_tri_May (s_tri_May o d1_)) w) := by
  obtain ⟨R, HR⟩ : ∃ R, e_tri_May (s_tri_May o d1_) = R := ⟨_, rfl⟩
  rw [HR]
  unfold s_tri_May at HR
  have hM0 := St.start w
  refine calls_run Try.func37 rfl ?_
  refine R_seq (R_region (S_fresh none #[.int .i64 o.1, .int .i64 o.2.1, .int .i64 o.2.2] 23 hM0 (by kernel_rfl) (fun g1 w2 hM3 => S_fresh none #[.int .i64 d1_.1, .int .i64 d1_.2.1, .int .i64 d1_.2.2] 23 hM3 (by kernel_rfl) (fun g4 w5 hM6 => S_val (.bool false) (by kernel_rfl) (S_nil (R_seq (R_region (S_load 1 0 (.agg #[.int .i64 o.1, .int .i64 o.2.1, .int .i64 o.2.2]) hM6 (by kernel_rfl) (S_call (s_tri_within o 65536) (fun r : Bool => .bool r) hM6 (w_tri_within o 65536 h_o (show InI 65536 from by unfold InI; omega) w5) (by kernel_rfl) (fun r7 h8 w9 hM10 => ?_))))))))))
  have HR := hr_lt HR h8
  cases r7
  · refine S_val (.bool false) (by kernel_rfl) (S_skip (by kernel_rfl) (S_skip (by kernel_rfl) (S_val (.bool false) (by kernel_rfl) (S_val (.bool false) (by kernel_rfl) (S_skip (by kernel_rfl) (S_skip (by kernel_rfl) (S_skip (by kernel_rfl) (S_val (.bool false) (by kernel_rfl) (S_val (.bool false) (by kernel_rfl) (S_nil (?_)))))))))))
    have HR := hr_neg HR Bool.false_ne_true
    refine R_ret hM10 rfl (.cons (.tmp _ (.bool false) (by kernel_rfl)) .nil) rfl ?_
    exact ⟨congrArg Ending.returned HR, hM10.below⟩
  · refine S_val (.bool true) (by kernel_rfl) (S_load 0 0 (.agg #[.int .i64 d1_.1, .int .i64 d1_.2.1, .int .i64 d1_.2.2]) hM10 (by kernel_rfl) (S_call (s_tri_within d1_ 131072) (fun r : Bool => .bool r) hM10 (w_tri_within d1_ 131072 h_d1_ (show InI 131072 from by unfold InI; omega) w9) (by kernel_rfl) (fun r11 h12 w13 hM14 => ?_)))
    have HR := hr_pos HR rfl
    have HR := hr_lt HR h12
    cases r11
    · refine S_val (.bool false) (by kernel_rfl) (S_val (.bool false) (by kernel_rfl) (S_skip (by kernel_rfl) (S_skip (by kernel_rfl) (S_skip (by kernel_rfl) (S_val (.bool false) (by kernel_rfl) (S_val (.bool false) (by kernel_rfl) (S_nil (?_))))))))
      have HR := hr_neg HR Bool.false_ne_true
      refine R_ret hM14 rfl (.cons (.tmp _ (.bool false) (by kernel_rfl)) .nil) rfl ?_
      exact ⟨congrArg Ending.returned HR, hM14.below⟩
    · refine S_val (.bool true) (by kernel_rfl) (S_val (.bool true) (by kernel_rfl) (S_load 0 0 (.agg #[.int .i64 d1_.1, .int .i64 d1_.2.1, .int .i64 d1_.2.2]) hM14 (by kernel_rfl) (S_val (.agg #[.int .i64 0, .int .i64 0, .int .i64 0]) (by kernel_rfl) (?_))))
      have HR := hr_pos HR rfl
      refine S_decn ((d1_ : Int × Int × Int) = (0, 0, 0)) (eqv_umbra_api_Pointn (x := d1_) (y := (0, 0, 0)) (by kernel_rfl) (by kernel_rfl) (by kernel_rfl)) (fun c15 => ?_) (fun c15 => ?_)
      · refine S_val (.bool true) (by kernel_rfl) (S_val (.bool true) (by kernel_rfl) (S_nil (?_)))
        have HR := hr_neg HR c15
        refine R_ret hM14 rfl (.cons (.tmp _ (.bool true) (by kernel_rfl)) .nil) rfl ?_
        exact ⟨congrArg Ending.returned HR, hM14.below⟩
      · refine S_val (.bool false) (by kernel_rfl) (S_val (.bool false) (by kernel_rfl) (S_nil (?_)))
        have HR := hr_pos HR c15
        refine R_ret hM14 rfl (.cons (.tmp _ (.bool false) (by kernel_rfl)) .nil) rfl ?_
        exact ⟨congrArg Ending.returned HR, hM14.below⟩

def e_umbraref20_Sub (r : Int × Int × Int) : Value := .agg #[.int .i64 r.1, .int .i64 r.2.1, .int .i64 r.2.2]
def s_umbraref20_Sub (a : Int × Int × Int) (b : Int × Int × Int) : Int × Int × Int :=
  lt (IntKind.i64.wrap (a.1 - b.1)) fun x10 =>
  lt (IntKind.i64.wrap (a.2.1 - b.2.1)) fun x12 =>
  lt (IntKind.i64.wrap (a.2.2 - b.2.2)) fun x14 =>
  (x10, x12, x14)
set_option maxRecDepth 100000 in
set_option maxHeartbeats 4000000 in
theorem w_umbraref20_Sub (a : Int × Int × Int) (b : Int × Int × Int) (h_a : InV a) (h_b : InV b) (w : World) : Calls Try.prog 82 #[.agg #[.int .i64 a.1, .int .i64 a.2.1, .int .i64 a.2.2], .agg #[.int .i64 b.1, .int .i64 b.2.1, .int .i64 b.2.2]] w (Ret (e_umbraref20_Sub (s_umbraref20_Sub a b)) w) := by
  obtain ⟨R, HR⟩ : ∃ R, e_umbraref20_Sub (s_umbraref20_Sub a b) = R := ⟨_, rfl⟩
  rw [HR]
  unfold s_umbraref20_Sub at HR
  have hM0 := St.start w
  refine calls_run Try.func82 rfl ?_
  refine R_seq (R_region (S_fresh none #[.int .i64 a.1, .int .i64 a.2.1, .int .i64 a.2.2] 23 hM0 (by kernel_rfl) (fun g1 w2 hM3 => S_fresh none #[.int .i64 b.1, .int .i64 b.2.1, .int .i64 b.2.2] 23 hM3 (by kernel_rfl) (fun g4 w5 hM6 => S_fresh none #[.int .i64 0, .int .i64 0, .int .i64 0] 23 hM6 (by kernel_rfl) (fun g7 w8 hM9 => S_nil (R_seq (R_region (S_val (.pointer (some ⟨g1, 0, none⟩)) (by kernel_rfl) (S_load 2 0 (.int .i64 a.1) hM9 (by kernel_rfl) (S_val (.pointer (some ⟨g4, 0, none⟩)) (by kernel_rfl) (S_load 1 0 (.int .i64 b.1) hM9 (by kernel_rfl) (?_))))))))))))
  refine S_int (IntKind.i64.wrap (a.1 - b.1)) .i64 (by kernel_rfl) (fun x10 h11 => S_val (.pointer (some ⟨g1, 1, none⟩)) (by kernel_rfl) (S_load 2 1 (.int .i64 a.2.1) hM9 (by kernel_rfl) (S_val (.pointer (some ⟨g4, 1, none⟩)) (by kernel_rfl) (S_load 1 1 (.int .i64 b.2.1) hM9 (by kernel_rfl) (S_int (IntKind.i64.wrap (a.2.1 - b.2.1)) .i64 (by kernel_rfl) (fun x12 h13 => S_val (.pointer (some ⟨g1, 2, none⟩)) (by kernel_rfl) (S_load 2 2 (.int .i64 a.2.2) hM9 (by kernel_rfl) (S_val (.pointer (some ⟨g4, 2, none⟩)) (by kernel_rfl) (S_load 1 2 (.int .i64 b.2.2) hM9 (by kernel_rfl) (S_int (IntKind.i64.wrap (a.2.2 - b.2.2)) .i64 (by kernel_rfl) (fun x14 h15 => S_val (.agg #[.int .i64 x10, .int .i64 x12, .int .i64 x14]) (by kernel_rfl) (?_))))))))))))
  have HR := hr_lt HR h11
  have HR := hr_lt HR h13
  have HR := hr_lt HR h15
  refine S_store 0 0 #[.int .i64 x10, .int .i64 x12, .int .i64 x14] hM9 (by kernel_rfl) (fun w16 hM17 => S_nil (?_))
  refine R_ret hM17 rfl (.cons (.cell _ _ 0 0 (.agg #[.int .i64 x10, .int .i64 x12, .int .i64 x14]) (by kernel_rfl)) .nil) rfl ?_
  exact ⟨congrArg Ending.returned HR, hM17.below⟩

def P_umbraref20_Sub (r : Int × Int × Int) : Prop := InV r
theorem i_umbraref20_Sub (a : Int × Int × Int) (b : Int × Int × Int) (h_a : InV a) (h_b : InV b) : P_umbraref20_Sub (s_umbraref20_Sub a b) := by
  unfold s_umbraref20_Sub
  exact (lt_P fun x10 h11 => (lt_P fun x12 h13 => (lt_P fun x14 h15 => (show InV (x10, x12, x14) from ⟨(wr_i64 h11), (wr_i64 h13), (wr_i64 h15)⟩))))

def e_umbraref20_Dot (r : Int) : Value := .int .i64 r
def s_umbraref20_Dot (a : Int × Int × Int) (b : Int × Int × Int) : Int :=
  lt (IntKind.i64.wrap (a.1 * b.1)) fun x7 =>
  lt (IntKind.i64.wrap (a.2.1 * b.2.1)) fun x9 =>
  lt (IntKind.i64.wrap (x7 + x9)) fun x11 =>
  lt (IntKind.i64.wrap (a.2.2 * b.2.2)) fun x13 =>
  lt (IntKind.i64.wrap (x11 + x13)) fun x15 =>
  x15
set_option maxRecDepth 100000 in
set_option maxHeartbeats 4000000 in
theorem w_umbraref20_Dot (a : Int × Int × Int) (b : Int × Int × Int) (h_a : InV a) (h_b : InV b) (w : World) : Calls Try.prog 84 #[.agg #[.int .i64 a.1, .int .i64 a.2.1, .int .i64 a.2.2], .agg #[.int .i64 b.1, .int .i64 b.2.1, .int .i64 b.2.2]] w (Ret (e_umbraref20_Dot (s_umbraref20_Dot a b)) w) := by
  obtain ⟨R, HR⟩ : ∃ R, e_umbraref20_Dot (s_umbraref20_Dot a b) = R := ⟨_, rfl⟩
  rw [HR]
  unfold s_umbraref20_Dot at HR
  have hM0 := St.start w
  refine calls_run Try.func84 rfl ?_
  refine R_seq (R_region (S_fresh none #[.int .i64 a.1, .int .i64 a.2.1, .int .i64 a.2.2] 23 hM0 (by kernel_rfl) (fun g1 w2 hM3 => S_fresh none #[.int .i64 b.1, .int .i64 b.2.1, .int .i64 b.2.2] 23 hM3 (by kernel_rfl) (fun g4 w5 hM6 => S_val (.int .i64 0) (by kernel_rfl) (S_nil (R_seq (R_region (S_val (.pointer (some ⟨g1, 0, none⟩)) (by kernel_rfl) (S_load 1 0 (.int .i64 a.1) hM6 (by kernel_rfl) (S_val (.pointer (some ⟨g4, 0, none⟩)) (by kernel_rfl) (S_load 0 0 (.int .i64 b.1) hM6 (by kernel_rfl) (?_))))))))))))
  refine S_int (IntKind.i64.wrap (a.1 * b.1)) .i64 (by kernel_rfl) (fun x7 h8 => S_val (.pointer (some ⟨g1, 1, none⟩)) (by kernel_rfl) (S_load 1 1 (.int .i64 a.2.1) hM6 (by kernel_rfl) (S_val (.pointer (some ⟨g4, 1, none⟩)) (by kernel_rfl) (S_load 0 1 (.int .i64 b.2.1) hM6 (by kernel_rfl) (S_int (IntKind.i64.wrap (a.2.1 * b.2.1)) .i64 (by kernel_rfl) (fun x9 h10 => S_int (IntKind.i64.wrap (x7 + x9)) .i64 (by kernel_rfl) (fun x11 h12 => S_val (.pointer (some ⟨g1, 2, none⟩)) (by kernel_rfl) (S_load 1 2 (.int .i64 a.2.2) hM6 (by kernel_rfl) (S_val (.pointer (some ⟨g4, 2, none⟩)) (by kernel_rfl) (S_load 0 2 (.int .i64 b.2.2) hM6 (by kernel_rfl) (S_int (IntKind.i64.wrap (a.2.2 * b.2.2)) .i64 (by kernel_rfl) (fun x13 h14 => ?_))))))))))))
  have HR := hr_lt HR h8
  have HR := hr_lt HR h10
  have HR := hr_lt HR h12
  have HR := hr_lt HR h14
  refine S_int (IntKind.i64.wrap (x11 + x13)) .i64 (by kernel_rfl) (fun x15 h16 => S_val (.int .i64 x15) (by kernel_rfl) (S_nil (?_)))
  have HR := hr_lt HR h16
  refine R_ret hM6 rfl (.cons (.tmp _ (.int .i64 x15) (by kernel_rfl)) .nil) rfl ?_
  exact ⟨congrArg Ending.returned HR, hM6.below⟩

def P_umbraref20_Dot (r : Int) : Prop := InI r
theorem i_umbraref20_Dot (a : Int × Int × Int) (b : Int × Int × Int) (h_a : InV a) (h_b : InV b) : P_umbraref20_Dot (s_umbraref20_Dot a b) := by
  unfold s_umbraref20_Dot
  exact (lt_P fun x7 h8 => (lt_P fun x9 h10 => (lt_P fun x11 h12 => (lt_P fun x13 h14 => (lt_P fun x15 h16 => (show InI x15 from (wr_i64 h16)))))))

def e_umbraref13_Off (r : Bool) : Value := .bool r
def s_umbraref13_Off (p : Int × Int × Int) (far : Int) : Bool :=
  if p.1 > far then
    true
  else
    lt (IntKind.i64.wrap (0 - far)) fun x5 =>
    if p.1 < x5 then
      true
    else
      if p.2.1 > far then
        true
      else
        lt (IntKind.i64.wrap (0 - far)) fun x9 =>
        if p.2.1 < x9 then
          true
        else
          if p.2.2 > far then
            true
          else
            lt (IntKind.i64.wrap (0 - far)) fun x13 =>
            if p.2.2 < x13 then
              true
            else
              false
set_option maxRecDepth 100000 in
set_option maxHeartbeats 4000000 in
theorem w_umbraref13_Off (p : Int × Int × Int) (far : Int) (h_p : InV p) (h_far : InI far) (w : World) : Calls Try.prog 80 #[.agg #[.int .i64 p.1, .int .i64 p.2.1, .int .i64 p.2.2], .int .i64 far] w (Ret (e_umbraref13_Off (s_umbraref13_Off p far)) w) := by
  obtain ⟨R, HR⟩ : ∃ R, e_umbraref13_Off (s_umbraref13_Off p far) = R := ⟨_, rfl⟩
  rw [HR]
  unfold s_umbraref13_Off at HR
  have hM0 := St.start w
  refine calls_run Try.func80 rfl ?_
  refine R_seq (R_region (S_fresh none #[.int .i64 p.1, .int .i64 p.2.1, .int .i64 p.2.2] 23 hM0 (by kernel_rfl) (fun g1 w2 hM3 => S_val (.bool false) (by kernel_rfl) (S_nil (R_seq (R_region (S_val (.pointer (some ⟨g1, 0, none⟩)) (by kernel_rfl) (S_load 0 0 (.int .i64 p.1) hM3 (by kernel_rfl) (S_val (.int .i64 far) (by kernel_rfl) (?_))))))))))
  refine S_dec (p.1 > far) (by kernel_rfl) (fun c4 => ?_) (fun c4 => ?_)
  · refine S_val (.bool true) (by kernel_rfl) (S_skip (by kernel_rfl) (S_skip (by kernel_rfl) (S_skip (by kernel_rfl) (S_skip (by kernel_rfl) (S_skip (by kernel_rfl) (S_val (.bool true) (by kernel_rfl) (S_val (.bool true) (by kernel_rfl) (S_skip (by kernel_rfl) (S_skip (by kernel_rfl) (S_skip (by kernel_rfl) (S_skip (by kernel_rfl) (?_))))))))))))
    have HR := hr_pos HR c4
    refine S_val (.bool true) (by kernel_rfl) (S_val (.bool true) (by kernel_rfl) (S_skip (by kernel_rfl) (S_skip (by kernel_rfl) (S_skip (by kernel_rfl) (S_skip (by kernel_rfl) (S_skip (by kernel_rfl) (S_val (.bool true) (by kernel_rfl) (S_val (.bool true) (by kernel_rfl) (S_skip (by kernel_rfl) (S_skip (by kernel_rfl) (S_skip (by kernel_rfl) (?_))))))))))))
    refine S_skip (by kernel_rfl) (S_val (.bool true) (by kernel_rfl) (S_val (.bool true) (by kernel_rfl) (S_skip (by kernel_rfl) (S_skip (by kernel_rfl) (S_skip (by kernel_rfl) (S_skip (by kernel_rfl) (S_skip (by kernel_rfl) (S_val (.bool true) (by kernel_rfl) (S_val (.bool true) (by kernel_rfl) (S_nil (?_)))))))))))
    refine R_ret hM3 rfl (.cons (.tmp _ (.bool true) (by kernel_rfl)) .nil) rfl ?_
    exact ⟨congrArg Ending.returned HR, hM3.below⟩
  · refine S_val (.bool false) (by kernel_rfl) (S_val (.pointer (some ⟨g1, 0, none⟩)) (by kernel_rfl) (S_load 0 0 (.int .i64 p.1) hM3 (by kernel_rfl) (S_val (.int .i64 far) (by kernel_rfl) (S_int (IntKind.i64.wrap (0 - far)) .i64 (by kernel_rfl) (fun x5 h6 => ?_)))))
    have HR := hr_neg HR c4
    have HR := hr_lt HR h6
    refine S_dec (p.1 < x5) (by kernel_rfl) (fun c7 => ?_) (fun c7 => ?_)
    · refine S_val (.bool true) (by kernel_rfl) (S_val (.bool true) (by kernel_rfl) (S_skip (by kernel_rfl) (S_skip (by kernel_rfl) (S_skip (by kernel_rfl) (S_skip (by kernel_rfl) (S_val (.bool true) (by kernel_rfl) (S_val (.bool true) (by kernel_rfl) (S_skip (by kernel_rfl) (S_skip (by kernel_rfl) (S_skip (by kernel_rfl) (S_skip (by kernel_rfl) (?_))))))))))))
      have HR := hr_pos HR c7
      refine S_skip (by kernel_rfl) (S_val (.bool true) (by kernel_rfl) (S_val (.bool true) (by kernel_rfl) (S_skip (by kernel_rfl) (S_skip (by kernel_rfl) (S_skip (by kernel_rfl) (S_skip (by kernel_rfl) (S_val (.bool true) (by kernel_rfl) (S_val (.bool true) (by kernel_rfl) (S_skip (by kernel_rfl) (S_skip (by kernel_rfl) (S_skip (by kernel_rfl) (?_))))))))))))
      refine S_skip (by kernel_rfl) (S_skip (by kernel_rfl) (S_val (.bool true) (by kernel_rfl) (S_val (.bool true) (by kernel_rfl) (S_nil (?_)))))
      refine R_ret hM3 rfl (.cons (.tmp _ (.bool true) (by kernel_rfl)) .nil) rfl ?_
      exact ⟨congrArg Ending.returned HR, hM3.below⟩
    · refine S_val (.bool false) (by kernel_rfl) (S_val (.bool false) (by kernel_rfl) (S_val (.pointer (some ⟨g1, 1, none⟩)) (by kernel_rfl) (S_load 0 1 (.int .i64 p.2.1) hM3 (by kernel_rfl) (S_val (.int .i64 far) (by kernel_rfl) (?_)))))
      have HR := hr_neg HR c7
      refine S_dec (p.2.1 > far) (by kernel_rfl) (fun c8 => ?_) (fun c8 => ?_)
      · refine S_val (.bool true) (by kernel_rfl) (S_val (.bool true) (by kernel_rfl) (S_skip (by kernel_rfl) (S_skip (by kernel_rfl) (S_skip (by kernel_rfl) (S_skip (by kernel_rfl) (S_skip (by kernel_rfl) (S_val (.bool true) (by kernel_rfl) (S_val (.bool true) (by kernel_rfl) (S_skip (by kernel_rfl) (S_skip (by kernel_rfl) (S_skip (by kernel_rfl) (?_))))))))))))
        have HR := hr_pos HR c8
        refine S_skip (by kernel_rfl) (S_val (.bool true) (by kernel_rfl) (S_val (.bool true) (by kernel_rfl) (S_skip (by kernel_rfl) (S_skip (by kernel_rfl) (S_skip (by kernel_rfl) (S_skip (by kernel_rfl) (S_skip (by kernel_rfl) (S_val (.bool true) (by kernel_rfl) (S_val (.bool true) (by kernel_rfl) (S_nil (?_)))))))))))
        refine R_ret hM3 rfl (.cons (.tmp _ (.bool true) (by kernel_rfl)) .nil) rfl ?_
        exact ⟨congrArg Ending.returned HR, hM3.below⟩
      · refine S_val (.bool false) (by kernel_rfl) (S_val (.bool false) (by kernel_rfl) (S_val (.pointer (some ⟨g1, 1, none⟩)) (by kernel_rfl) (S_load 0 1 (.int .i64 p.2.1) hM3 (by kernel_rfl) (S_val (.int .i64 far) (by kernel_rfl) (S_int (IntKind.i64.wrap (0 - far)) .i64 (by kernel_rfl) (fun x9 h10 => ?_))))))
        have HR := hr_neg HR c8
        have HR := hr_lt HR h10
        refine S_dec (p.2.1 < x9) (by kernel_rfl) (fun c11 => ?_) (fun c11 => ?_)
        · refine S_val (.bool true) (by kernel_rfl) (S_val (.bool true) (by kernel_rfl) (S_skip (by kernel_rfl) (S_skip (by kernel_rfl) (S_skip (by kernel_rfl) (S_skip (by kernel_rfl) (S_val (.bool true) (by kernel_rfl) (S_val (.bool true) (by kernel_rfl) (S_skip (by kernel_rfl) (S_skip (by kernel_rfl) (S_skip (by kernel_rfl) (S_skip (by kernel_rfl) (?_))))))))))))
          have HR := hr_pos HR c11
          refine S_skip (by kernel_rfl) (S_val (.bool true) (by kernel_rfl) (S_val (.bool true) (by kernel_rfl) (S_nil (?_))))
          refine R_ret hM3 rfl (.cons (.tmp _ (.bool true) (by kernel_rfl)) .nil) rfl ?_
          exact ⟨congrArg Ending.returned HR, hM3.below⟩
        · refine S_val (.bool false) (by kernel_rfl) (S_val (.bool false) (by kernel_rfl) (S_val (.pointer (some ⟨g1, 2, none⟩)) (by kernel_rfl) (S_load 0 2 (.int .i64 p.2.2) hM3 (by kernel_rfl) (S_val (.int .i64 far) (by kernel_rfl) (?_)))))
          have HR := hr_neg HR c11
          refine S_dec (p.2.2 > far) (by kernel_rfl) (fun c12 => ?_) (fun c12 => ?_)
          · refine S_val (.bool true) (by kernel_rfl) (S_val (.bool true) (by kernel_rfl) (S_skip (by kernel_rfl) (S_skip (by kernel_rfl) (S_skip (by kernel_rfl) (S_skip (by kernel_rfl) (S_skip (by kernel_rfl) (S_val (.bool true) (by kernel_rfl) (S_val (.bool true) (by kernel_rfl) (S_nil (?_))))))))))
            have HR := hr_pos HR c12
            refine R_ret hM3 rfl (.cons (.tmp _ (.bool true) (by kernel_rfl)) .nil) rfl ?_
            exact ⟨congrArg Ending.returned HR, hM3.below⟩
          · refine S_val (.bool false) (by kernel_rfl) (S_val (.bool false) (by kernel_rfl) (S_val (.pointer (some ⟨g1, 2, none⟩)) (by kernel_rfl) (S_load 0 2 (.int .i64 p.2.2) hM3 (by kernel_rfl) (S_val (.int .i64 far) (by kernel_rfl) (S_int (IntKind.i64.wrap (0 - far)) .i64 (by kernel_rfl) (fun x13 h14 => ?_))))))
            have HR := hr_neg HR c12
            have HR := hr_lt HR h14
            refine S_dec (p.2.2 < x13) (by kernel_rfl) (fun c15 => ?_) (fun c15 => ?_)
            · refine S_val (.bool true) (by kernel_rfl) (S_val (.bool true) (by kernel_rfl) (S_nil (?_)))
              have HR := hr_pos HR c15
              refine R_ret hM3 rfl (.cons (.tmp _ (.bool true) (by kernel_rfl)) .nil) rfl ?_
              exact ⟨congrArg Ending.returned HR, hM3.below⟩
            · refine S_val (.bool false) (by kernel_rfl) (S_val (.bool false) (by kernel_rfl) (S_nil (?_)))
              have HR := hr_neg HR c15
              refine R_ret hM3 rfl (.cons (.tmp _ (.bool false) (by kernel_rfl)) .nil) rfl ?_
              exact ⟨congrArg Ending.returned HR, hM3.below⟩

def e_asset_outside_1 (r : Bool) : Value := .bool r
def s_asset_outside_1 (most : Int) (n : Int) : Bool :=
  if n < 0 then
    true
  else
    if n > most then
      true
    else
      false
set_option maxRecDepth 100000 in
set_option maxHeartbeats 4000000 in
theorem w_asset_outside_1 (most : Int) (n : Int) (h_most : InI most) (h_n : InI n) (B0 : Nat) (T0 : TypeId) (fr0 : Nat × Nat) (w : World) (hB0 : Has B0 (.cells #[.int .i64 most] T0 fr0) w) : Calls Try.prog 115 #[.int .i64 n, .pointer (some ⟨B0, 0, none⟩)] w (Ret (e_asset_outside_1 (s_asset_outside_1 most n)) w) := by
  obtain ⟨R, HR⟩ : ∃ R, e_asset_outside_1 (s_asset_outside_1 most n) = R := ⟨_, rfl⟩
  rw [HR]
  unfold s_asset_outside_1 at HR
  have hM0 := St.start1 hB0
  refine calls_run Try.func115 rfl ?_
  refine R_seq (R_region (S_val (.bool false) (by kernel_rfl) (S_nil (R_seq (R_region (S_val (.int .i64 n) (by kernel_rfl) (?_)))))))
  refine S_dec (n < 0) (by kernel_rfl) (fun c1 => ?_) (fun c1 => ?_)
  · refine S_val (.bool true) (by kernel_rfl) (S_skip (by kernel_rfl) (S_skip (by kernel_rfl) (S_skip (by kernel_rfl) (S_val (.bool true) (by kernel_rfl) (S_val (.bool true) (by kernel_rfl) (S_nil (?_)))))))
    have HR := hr_pos HR c1
    refine R_ret hM0 rfl (.cons (.tmp _ (.bool true) (by kernel_rfl)) .nil) rfl ?_
    exact ⟨congrArg Ending.returned HR, hM0.below⟩
  · refine S_val (.bool false) (by kernel_rfl) (S_val (.int .i64 n) (by kernel_rfl) (S_load 0 0 (.int .i64 most) hM0 (by kernel_rfl) (?_)))
    have HR := hr_neg HR c1
    refine S_dec (n > most) (by kernel_rfl) (fun c2 => ?_) (fun c2 => ?_)
    · refine S_val (.bool true) (by kernel_rfl) (S_val (.bool true) (by kernel_rfl) (S_nil (?_)))
      have HR := hr_pos HR c2
      refine R_ret hM0 rfl (.cons (.tmp _ (.bool true) (by kernel_rfl)) .nil) rfl ?_
      exact ⟨congrArg Ending.returned HR, hM0.below⟩
    · refine S_val (.bool false) (by kernel_rfl) (S_val (.bool false) (by kernel_rfl) (S_nil (?_)))
      have HR := hr_neg HR c2
      refine R_ret hM0 rfl (.cons (.tmp _ (.bool false) (by kernel_rfl)) .nil) rfl ?_
      exact ⟨congrArg Ending.returned HR, hM0.below⟩

def e_slices_IndexFunc_g_n1 (r : Int) : Value := .int .i64 r
def s_slices_IndexFunc_g_n1 (k : Int) (most : Int) : Int :=
  lt (s_asset_outside_1 most k) fun r1 =>
  if r1 = true then
    0
  else
    (-1)
set_option maxRecDepth 100000 in
set_option maxHeartbeats 4000000 in
theorem w_slices_IndexFunc_g_n1 (k : Int) (most : Int) (h_k : (InI k)) (h_most : InI most) (B0 : Nat) (T0 : TypeId) (fr0 : Nat × Nat) (B1 : Nat) (T1 : TypeId) (fr1 : Nat × Nat) (w : World) (hB0 : Has B0 (.cells #[.int .i64 k] T0 fr0) w) (hB1 : Has B1 (.cells #[.int .i64 most] T1 fr1) w) (hne : B1 ≠ B0) : Calls Try.prog 125 #[.slice (some ⟨B0, 0, none⟩) 1 1, .func (.func 115) #[] #[.pointer (some ⟨B1, 0, none⟩)]] w (Ret (e_slices_IndexFunc_g_n1 (s_slices_IndexFunc_g_n1 k most)) w) := by
  obtain ⟨R, HR⟩ : ∃ R, e_slices_IndexFunc_g_n1 (s_slices_IndexFunc_g_n1 k most) = R := ⟨_, rfl⟩
  rw [HR]
  unfold s_slices_IndexFunc_g_n1 at HR
  have hM0 := St.start2 (St.start1 hB0) hB1 (by simpa using hne)
  refine calls_run Try.func125 rfl ?_
  refine R_seq (R_region (S_val (.int .i64 0) (by kernel_rfl) (S_nil (R_seq (R_seq (R_region (S_val (.slice (some ⟨B0, 0, none⟩) 1 1) (by kernel_rfl) (S_val (.int .i64 1) (by kernel_rfl) (S_val (.int .i64 0) (by kernel_rfl) (S_nil (R_block (?_))))))))))))
  refine R_loop (R_seq (R_region (S_val (.bool true) (by kernel_rfl) (S_nil (R_seq (R_yes (by kernel_rfl) (R_skip (R_seq (R_block (R_seq (R_region (?_))))))))))))
  refine S_val (.int .i64 0) (by kernel_rfl) (S_val (.int .i64 0) (by kernel_rfl) (S_nil (R_seq (R_region (S_val (.func (.func 115) #[] #[.pointer (some ⟨B1, 0, none⟩)]) (by kernel_rfl) (S_val (.slice (some ⟨B0, 0, none⟩) 1 1) (by kernel_rfl) (S_val (.int .i64 0) (by kernel_rfl) (S_val (.pointer (some ⟨B0, 0, none⟩)) (by kernel_rfl) (S_load 1 0 (.int .i64 k) hM0 (by kernel_rfl) (S_call (s_asset_outside_1 most k) (fun r : Bool => .bool r) hM0 (w_asset_outside_1 most k h_most h_k B1 _ _ w (hM0.at 0 rfl)) (by kernel_rfl) (fun r1 h2 w3 hM4 => ?_)))))))))))
  have HR := hr_lt HR h2
  cases r1
  · refine S_nil (R_no (by kernel_rfl) (R_skip (R_inBlock (R_region (S_val (.int .i64 1) (by kernel_rfl) (S_val (.int .i64 1) (by kernel_rfl) (S_nil (R_inLoop (R_seq (R_region (S_val (.bool false) (by kernel_rfl) (?_))))))))))))
    have HR := hr_neg HR Bool.false_ne_true
    refine S_nil (R_seq (R_no (by kernel_rfl) (R_exit rfl (R_seq (R_region (S_val (.int .i64 (-1)) (by kernel_rfl) (S_nil (?_))))))))
    refine R_ret hM4 rfl (.cons (.tmp _ (.int .i64 (-1)) (by kernel_rfl)) .nil) rfl ?_
    exact ⟨congrArg Ending.returned HR, hM4.below⟩
  · refine S_nil (R_yes (by kernel_rfl) (R_seq (R_region (S_val (.int .i64 0) (by kernel_rfl) (S_val (.int .i64 0) (by kernel_rfl) (S_nil (?_)))))))
    have HR := hr_pos HR rfl
    refine R_ret hM4 rfl (.cons (.tmp _ (.int .i64 0) (by kernel_rfl)) .nil) rfl ?_
    exact ⟨congrArg Ending.returned HR, hM4.below⟩

def P_slices_IndexFunc_g_n1 (r : Int) : Prop := InI r
theorem i_slices_IndexFunc_g_n1 (k : Int) (most : Int) (h_k : (InI k)) (h_most : InI most) : P_slices_IndexFunc_g_n1 (s_slices_IndexFunc_g_n1 k most) := by
  unfold s_slices_IndexFunc_g_n1
  exact (lt_P fun r1 h2 => (ite_P (fun c5 => (show InI 0 from (show InI 0 from by unfold InI; omega))) (fun c5 => (show InI (-1) from (show InI (-1) from by unfold InI; omega)))))

def e_slices_IndexFunc_g_n3 (r : Int) : Value := .int .i64 r
def s_slices_IndexFunc_g_n3 (l : Int × (Int × Int × Int) × (Int × Int × Int) × (Int × Int × Int) × (Int × Int × Int)) (most : Int) : Int :=
  lt (s_asset_outside_1 most l.2.1.1) fun r1 =>
  if r1 = true then
    0
  else
    lt (s_asset_outside_1 most l.2.1.2.1) fun r5 =>
    if r5 = true then
      1
    else
      lt (s_asset_outside_1 most l.2.1.2.2) fun r9 =>
      if r9 = true then
        2
      else
        (-1)
set_option maxRecDepth 100000 in
set_option maxHeartbeats 4000000 in
theorem w_slices_IndexFunc_g_n3 (l : Int × (Int × Int × Int) × (Int × Int × Int) × (Int × Int × Int) × (Int × Int × Int)) (most : Int) (h_l : (InI l.1 ∧ InV l.2.1 ∧ InV l.2.2.1 ∧ InV l.2.2.2.1 ∧ InV l.2.2.2.2)) (h_most : InI most) (B0 : Nat) (T0 : TypeId) (fr0 : Nat × Nat) (B1 : Nat) (T1 : TypeId) (fr1 : Nat × Nat) (w : World) (hB0 : Has B0 (.cells #[.int .i64 l.1, .int .i64 l.2.1.1, .int .i64 l.2.1.2.1, .int .i64 l.2.1.2.2, .int .i64 l.2.2.1.1, .int .i64 l.2.2.1.2.1, .int .i64 l.2.2.1.2.2, .int .i64 l.2.2.2.1.1, .int .i64 l.2.2.2.1.2.1, .int .i64 l.2.2.2.1.2.2, .int .i64 l.2.2.2.2.1, .int .i64 l.2.2.2.2.2.1, .int .i64 l.2.2.2.2.2.2] T0 fr0) w) (hB1 : Has B1 (.cells #[.int .i64 most] T1 fr1) w) (hne : B1 ≠ B0) : Calls Try.prog 125 #[.slice (some ⟨B0, 1, none⟩) 3 3, .func (.func 115) #[] #[.pointer (some ⟨B1, 0, none⟩)]] w (Ret (e_slices_IndexFunc_g_n3 (s_slices_IndexFunc_g_n3 l most)) w) := by
  obtain ⟨R, HR⟩ : ∃ R, e_slices_IndexFunc_g_n3 (s_slices_IndexFunc_g_n3 l most) = R := ⟨_, rfl⟩
  rw [HR]
  unfold s_slices_IndexFunc_g_n3 at HR
  have hM0 := St.start2 (St.start1 hB0) hB1 (by simpa using hne)
  refine calls_run Try.func125 rfl ?_
  refine R_seq (R_region (S_val (.int .i64 0) (by kernel_rfl) (S_nil (R_seq (R_seq (R_region (S_val (.slice (some ⟨B0, 1, none⟩) 3 3) (by kernel_rfl) (S_val (.int .i64 3) (by kernel_rfl) (S_val (.int .i64 0) (by kernel_rfl) (S_nil (R_block (?_))))))))))))
  refine R_loop (R_seq (R_region (S_val (.bool true) (by kernel_rfl) (S_nil (R_seq (R_yes (by kernel_rfl) (R_skip (R_seq (R_block (R_seq (R_region (?_))))))))))))
  refine S_val (.int .i64 0) (by kernel_rfl) (S_val (.int .i64 0) (by kernel_rfl) (S_nil (R_seq (R_region (S_val (.func (.func 115) #[] #[.pointer (some ⟨B1, 0, none⟩)]) (by kernel_rfl) (S_val (.slice (some ⟨B0, 1, none⟩) 3 3) (by kernel_rfl) (S_val (.int .i64 0) (by kernel_rfl) (S_val (.pointer (some ⟨B0, 1, none⟩)) (by kernel_rfl) (S_load 1 1 (.int .i64 l.2.1.1) hM0 (by kernel_rfl) (S_call (s_asset_outside_1 most l.2.1.1) (fun r : Bool => .bool r) hM0 (w_asset_outside_1 most l.2.1.1 h_most h_l.2.1.1 B1 _ _ w (hM0.at 0 rfl)) (by kernel_rfl) (fun r1 h2 w3 hM4 => ?_)))))))))))
  have HR := hr_lt HR h2
  cases r1
  · refine S_nil (R_no (by kernel_rfl) (R_skip (R_inBlock (R_region (S_val (.int .i64 1) (by kernel_rfl) (S_val (.int .i64 1) (by kernel_rfl) (S_nil (R_inLoop (R_seq (R_region (S_val (.bool true) (by kernel_rfl) (?_))))))))))))
    have HR := hr_neg HR Bool.false_ne_true
    refine S_nil (R_seq (R_yes (by kernel_rfl) (R_skip (R_seq (R_block (R_seq (R_region (S_val (.int .i64 1) (by kernel_rfl) (S_val (.int .i64 1) (by kernel_rfl) (S_nil (R_seq (?_))))))))))))
    refine R_region (S_val (.func (.func 115) #[] #[.pointer (some ⟨B1, 0, none⟩)]) (by kernel_rfl) (S_val (.slice (some ⟨B0, 1, none⟩) 3 3) (by kernel_rfl) (S_val (.int .i64 1) (by kernel_rfl) (S_val (.pointer (some ⟨B0, 2, none⟩)) (by kernel_rfl) (S_load 1 2 (.int .i64 l.2.1.2.1) hM4 (by kernel_rfl) (S_call (s_asset_outside_1 most l.2.1.2.1) (fun r : Bool => .bool r) hM4 (w_asset_outside_1 most l.2.1.2.1 h_most h_l.2.1.2.1 B1 _ _ w3 (hM4.at 0 rfl)) (by kernel_rfl) (fun r5 h6 w7 hM8 => ?_)))))))
    have HR := hr_lt HR h6
    cases r5
    · refine S_nil (R_no (by kernel_rfl) (R_skip (R_inBlock (R_region (S_val (.int .i64 2) (by kernel_rfl) (S_val (.int .i64 2) (by kernel_rfl) (S_nil (R_inLoop (R_seq (R_region (S_val (.bool true) (by kernel_rfl) (?_))))))))))))
      have HR := hr_neg HR Bool.false_ne_true
      refine S_nil (R_seq (R_yes (by kernel_rfl) (R_skip (R_seq (R_block (R_seq (R_region (S_val (.int .i64 2) (by kernel_rfl) (S_val (.int .i64 2) (by kernel_rfl) (S_nil (R_seq (?_))))))))))))
      refine R_region (S_val (.func (.func 115) #[] #[.pointer (some ⟨B1, 0, none⟩)]) (by kernel_rfl) (S_val (.slice (some ⟨B0, 1, none⟩) 3 3) (by kernel_rfl) (S_val (.int .i64 2) (by kernel_rfl) (S_val (.pointer (some ⟨B0, 3, none⟩)) (by kernel_rfl) (S_load 1 3 (.int .i64 l.2.1.2.2) hM8 (by kernel_rfl) (S_call (s_asset_outside_1 most l.2.1.2.2) (fun r : Bool => .bool r) hM8 (w_asset_outside_1 most l.2.1.2.2 h_most h_l.2.1.2.2 B1 _ _ w7 (hM8.at 0 rfl)) (by kernel_rfl) (fun r9 h10 w11 hM12 => ?_)))))))
      have HR := hr_lt HR h10
      cases r9
      · refine S_nil (R_no (by kernel_rfl) (R_skip (R_inBlock (R_region (S_val (.int .i64 3) (by kernel_rfl) (S_val (.int .i64 3) (by kernel_rfl) (S_nil (R_inLoop (R_seq (R_region (S_val (.bool false) (by kernel_rfl) (?_))))))))))))
        have HR := hr_neg HR Bool.false_ne_true
        refine S_nil (R_seq (R_no (by kernel_rfl) (R_exit rfl (R_seq (R_region (S_val (.int .i64 (-1)) (by kernel_rfl) (S_nil (?_))))))))
        refine R_ret hM12 rfl (.cons (.tmp _ (.int .i64 (-1)) (by kernel_rfl)) .nil) rfl ?_
        exact ⟨congrArg Ending.returned HR, hM12.below⟩
      · refine S_nil (R_yes (by kernel_rfl) (R_seq (R_region (S_val (.int .i64 2) (by kernel_rfl) (S_val (.int .i64 2) (by kernel_rfl) (S_nil (?_)))))))
        have HR := hr_pos HR rfl
        refine R_ret hM12 rfl (.cons (.tmp _ (.int .i64 2) (by kernel_rfl)) .nil) rfl ?_
        exact ⟨congrArg Ending.returned HR, hM12.below⟩
    · refine S_nil (R_yes (by kernel_rfl) (R_seq (R_region (S_val (.int .i64 1) (by kernel_rfl) (S_val (.int .i64 1) (by kernel_rfl) (S_nil (?_)))))))
      have HR := hr_pos HR rfl
      refine R_ret hM8 rfl (.cons (.tmp _ (.int .i64 1) (by kernel_rfl)) .nil) rfl ?_
      exact ⟨congrArg Ending.returned HR, hM8.below⟩
  · refine S_nil (R_yes (by kernel_rfl) (R_seq (R_region (S_val (.int .i64 0) (by kernel_rfl) (S_val (.int .i64 0) (by kernel_rfl) (S_nil (?_)))))))
    have HR := hr_pos HR rfl
    refine R_ret hM4 rfl (.cons (.tmp _ (.int .i64 0) (by kernel_rfl)) .nil) rfl ?_
    exact ⟨congrArg Ending.returned HR, hM4.below⟩

def P_slices_IndexFunc_g_n3 (r : Int) : Prop := InI r
theorem i_slices_IndexFunc_g_n3 (l : Int × (Int × Int × Int) × (Int × Int × Int) × (Int × Int × Int) × (Int × Int × Int)) (most : Int) (h_l : (InI l.1 ∧ InV l.2.1 ∧ InV l.2.2.1 ∧ InV l.2.2.2.1 ∧ InV l.2.2.2.2)) (h_most : InI most) : P_slices_IndexFunc_g_n3 (s_slices_IndexFunc_g_n3 l most) := by
  unfold s_slices_IndexFunc_g_n3
  exact (lt_P fun r1 h2 => (ite_P (fun c15 => (show InI 0 from (show InI 0 from by unfold InI; omega))) (fun c15 => (lt_P fun r5 h6 => (ite_P (fun c14 => (show InI 1 from (show InI 1 from by unfold InI; omega))) (fun c14 => (lt_P fun r9 h10 => (ite_P (fun c13 => (show InI 2 from (show InI 2 from by unfold InI; omega))) (fun c13 => (show InI (-1) from (show InI (-1) from by unfold InI; omega)))))))))))

def e_slices_ContainsFunc_g_n1 (r : Bool) : Value := .bool r
def s_slices_ContainsFunc_g_n1 (k : Int) (most : Int) : Bool :=
  lt (s_slices_IndexFunc_g_n1 k most) fun r1 =>
  if r1 ≥ 0 then
    true
  else
    false
set_option maxRecDepth 100000 in
set_option maxHeartbeats 4000000 in
theorem w_slices_ContainsFunc_g_n1 (k : Int) (most : Int) (h_k : (InI k)) (h_most : InI most) (B0 : Nat) (T0 : TypeId) (fr0 : Nat × Nat) (B1 : Nat) (T1 : TypeId) (fr1 : Nat × Nat) (w : World) (hB0 : Has B0 (.cells #[.int .i64 k] T0 fr0) w) (hB1 : Has B1 (.cells #[.int .i64 most] T1 fr1) w) (hne : B1 ≠ B0) : Calls Try.prog 114 #[.slice (some ⟨B0, 0, none⟩) 1 1, .func (.func 115) #[] #[.pointer (some ⟨B1, 0, none⟩)]] w (Ret (e_slices_ContainsFunc_g_n1 (s_slices_ContainsFunc_g_n1 k most)) w) := by
  obtain ⟨R, HR⟩ : ∃ R, e_slices_ContainsFunc_g_n1 (s_slices_ContainsFunc_g_n1 k most) = R := ⟨_, rfl⟩
  rw [HR]
  unfold s_slices_ContainsFunc_g_n1 at HR
  have hM0 := St.start2 (St.start1 hB0) hB1 (by simpa using hne)
  refine calls_run Try.func114 rfl ?_
  refine R_seq (R_region (S_val (.bool false) (by kernel_rfl) (S_nil (R_seq (R_region (S_val (.slice (some ⟨B0, 0, none⟩) 1 1) (by kernel_rfl) (S_val (.func (.func 115) #[] #[.pointer (some ⟨B1, 0, none⟩)]) (by kernel_rfl) (S_call (s_slices_IndexFunc_g_n1 k most) (fun r : Int => .int .i64 r) hM0 (w_slices_IndexFunc_g_n1 k most h_k h_most B0 _ _ B1 _ _ w (hM0.at 1 rfl) (hM0.at 0 rfl) (hM0.ne 0 1 rfl rfl (by decide))) (by kernel_rfl) (fun r1 h2 w3 hM4 => ?_)))))))))
  have HR := hr_lt HR h2
  refine S_dec (r1 ≥ 0) (by kernel_rfl) (fun c5 => ?_) (fun c5 => ?_)
  · refine S_val (.bool true) (by kernel_rfl) (S_nil (?_))
    have HR := hr_pos HR c5
    refine R_ret hM4 rfl (.cons (.tmp _ (.bool true) (by kernel_rfl)) .nil) rfl ?_
    exact ⟨congrArg Ending.returned HR, hM4.below⟩
  · refine S_val (.bool false) (by kernel_rfl) (S_nil (?_))
    have HR := hr_neg HR c5
    refine R_ret hM4 rfl (.cons (.tmp _ (.bool false) (by kernel_rfl)) .nil) rfl ?_
    exact ⟨congrArg Ending.returned HR, hM4.below⟩

def e_slices_ContainsFunc_g_n3 (r : Bool) : Value := .bool r
def s_slices_ContainsFunc_g_n3 (l : Int × (Int × Int × Int) × (Int × Int × Int) × (Int × Int × Int) × (Int × Int × Int)) (most : Int) : Bool :=
  lt (s_slices_IndexFunc_g_n3 l most) fun r1 =>
  if r1 ≥ 0 then
    true
  else
    false
set_option maxRecDepth 100000 in
set_option maxHeartbeats 4000000 in
theorem w_slices_ContainsFunc_g_n3 (l : Int × (Int × Int × Int) × (Int × Int × Int) × (Int × Int × Int) × (Int × Int × Int)) (most : Int) (h_l : (InI l.1 ∧ InV l.2.1 ∧ InV l.2.2.1 ∧ InV l.2.2.2.1 ∧ InV l.2.2.2.2)) (h_most : InI most) (B0 : Nat) (T0 : TypeId) (fr0 : Nat × Nat) (B1 : Nat) (T1 : TypeId) (fr1 : Nat × Nat) (w : World) (hB0 : Has B0 (.cells #[.int .i64 l.1, .int .i64 l.2.1.1, .int .i64 l.2.1.2.1, .int .i64 l.2.1.2.2, .int .i64 l.2.2.1.1, .int .i64 l.2.2.1.2.1, .int .i64 l.2.2.1.2.2, .int .i64 l.2.2.2.1.1, .int .i64 l.2.2.2.1.2.1, .int .i64 l.2.2.2.1.2.2, .int .i64 l.2.2.2.2.1, .int .i64 l.2.2.2.2.2.1, .int .i64 l.2.2.2.2.2.2] T0 fr0) w) (hB1 : Has B1 (.cells #[.int .i64 most] T1 fr1) w) (hne : B1 ≠ B0) : Calls Try.prog 114 #[.slice (some ⟨B0, 1, none⟩) 3 3, .func (.func 115) #[] #[.pointer (some ⟨B1, 0, none⟩)]] w (Ret (e_slices_ContainsFunc_g_n3 (s_slices_ContainsFunc_g_n3 l most)) w) := by
  obtain ⟨R, HR⟩ : ∃ R, e_slices_ContainsFunc_g_n3 (s_slices_ContainsFunc_g_n3 l most) = R := ⟨_, rfl⟩
  rw [HR]
  unfold s_slices_ContainsFunc_g_n3 at HR
  have hM0 := St.start2 (St.start1 hB0) hB1 (by simpa using hne)
  refine calls_run Try.func114 rfl ?_
  refine R_seq (R_region (S_val (.bool false) (by kernel_rfl) (S_nil (R_seq (R_region (S_val (.slice (some ⟨B0, 1, none⟩) 3 3) (by kernel_rfl) (S_val (.func (.func 115) #[] #[.pointer (some ⟨B1, 0, none⟩)]) (by kernel_rfl) (S_call (s_slices_IndexFunc_g_n3 l most) (fun r : Int => .int .i64 r) hM0 (w_slices_IndexFunc_g_n3 l most h_l h_most B0 _ _ B1 _ _ w (hM0.at 1 rfl) (hM0.at 0 rfl) (hM0.ne 0 1 rfl rfl (by decide))) (by kernel_rfl) (fun r1 h2 w3 hM4 => ?_)))))))))
  have HR := hr_lt HR h2
  refine S_dec (r1 ≥ 0) (by kernel_rfl) (fun c5 => ?_) (fun c5 => ?_)
  · refine S_val (.bool true) (by kernel_rfl) (S_nil (?_))
    have HR := hr_pos HR c5
    refine R_ret hM4 rfl (.cons (.tmp _ (.bool true) (by kernel_rfl)) .nil) rfl ?_
    exact ⟨congrArg Ending.returned HR, hM4.below⟩
  · refine S_val (.bool false) (by kernel_rfl) (S_nil (?_))
    have HR := hr_neg HR c5
    refine R_ret hM4 rfl (.cons (.tmp _ (.bool false) (by kernel_rfl)) .nil) rfl ?_
    exact ⟨congrArg Ending.returned HR, hM4.below⟩

def e_asset_outside_n1 (r : Bool) : Value := .bool r
def s_asset_outside_n1 (k : Int) (most : Int) : Bool :=
  lt (s_slices_ContainsFunc_g_n1 k most) fun r4 =>
  if r4 = true then
    true
  else
    false
set_option maxRecDepth 100000 in
set_option maxHeartbeats 4000000 in
theorem w_asset_outside_n1 (k : Int) (most : Int) (h_k : (InI k)) (h_most : InI most) (B0 : Nat) (T0 : TypeId) (fr0 : Nat × Nat) (w : World) (hB0 : Has B0 (.cells #[.int .i64 k] T0 fr0) w) : Calls Try.prog 89 #[.int .i64 most, .slice (some ⟨B0, 0, none⟩) 1 1] w (Ret (e_asset_outside_n1 (s_asset_outside_n1 k most)) w) := by
  obtain ⟨R, HR⟩ : ∃ R, e_asset_outside_n1 (s_asset_outside_n1 k most) = R := ⟨_, rfl⟩
  rw [HR]
  unfold s_asset_outside_n1 at HR
  have hM0 := St.start1 hB0
  refine calls_run Try.func89 rfl ?_
  refine R_seq (R_region (S_fresh none #[.int .i64 most] 3 hM0 (by kernel_rfl) (fun g1 w2 hM3 => S_val (.bool false) (by kernel_rfl) (S_nil (R_seq (R_region (S_val (.slice (some ⟨B0, 0, none⟩) 1 1) (by kernel_rfl) (S_val (.func (.func 115) #[] #[.pointer (some ⟨g1, 0, none⟩)]) (by kernel_rfl) (S_call (s_slices_ContainsFunc_g_n1 k most) (fun r : Bool => .bool r) hM3 (w_slices_ContainsFunc_g_n1 k most h_k h_most B0 _ _ g1 _ _ w2 (hM3.at 1 rfl) (hM3.at 0 rfl) (hM3.ne 0 1 rfl rfl (by decide))) (by kernel_rfl) (fun r4 h5 w6 hM7 => ?_))))))))))
  have HR := hr_lt HR h5
  cases r4
  · refine S_val (.bool false) (by kernel_rfl) (S_nil (?_))
    have HR := hr_neg HR Bool.false_ne_true
    refine R_ret hM7 rfl (.cons (.tmp _ (.bool false) (by kernel_rfl)) .nil) rfl ?_
    exact ⟨congrArg Ending.returned HR, hM7.below⟩
  · refine S_val (.bool true) (by kernel_rfl) (S_nil (?_))
    have HR := hr_pos HR rfl
    refine R_ret hM7 rfl (.cons (.tmp _ (.bool true) (by kernel_rfl)) .nil) rfl ?_
    exact ⟨congrArg Ending.returned HR, hM7.below⟩

def e_asset_outside_n3 (r : Bool) : Value := .bool r
def s_asset_outside_n3 (l : Int × (Int × Int × Int) × (Int × Int × Int) × (Int × Int × Int) × (Int × Int × Int)) (most : Int) : Bool :=
  lt (s_slices_ContainsFunc_g_n3 l most) fun r4 =>
  if r4 = true then
    true
  else
    false
set_option maxRecDepth 100000 in
set_option maxHeartbeats 4000000 in
theorem w_asset_outside_n3 (l : Int × (Int × Int × Int) × (Int × Int × Int) × (Int × Int × Int) × (Int × Int × Int)) (most : Int) (h_l : (InI l.1 ∧ InV l.2.1 ∧ InV l.2.2.1 ∧ InV l.2.2.2.1 ∧ InV l.2.2.2.2)) (h_most : InI most) (B0 : Nat) (T0 : TypeId) (fr0 : Nat × Nat) (w : World) (hB0 : Has B0 (.cells #[.int .i64 l.1, .int .i64 l.2.1.1, .int .i64 l.2.1.2.1, .int .i64 l.2.1.2.2, .int .i64 l.2.2.1.1, .int .i64 l.2.2.1.2.1, .int .i64 l.2.2.1.2.2, .int .i64 l.2.2.2.1.1, .int .i64 l.2.2.2.1.2.1, .int .i64 l.2.2.2.1.2.2, .int .i64 l.2.2.2.2.1, .int .i64 l.2.2.2.2.2.1, .int .i64 l.2.2.2.2.2.2] T0 fr0) w) : Calls Try.prog 89 #[.int .i64 most, .slice (some ⟨B0, 1, none⟩) 3 3] w (Ret (e_asset_outside_n3 (s_asset_outside_n3 l most)) w) := by
  obtain ⟨R, HR⟩ : ∃ R, e_asset_outside_n3 (s_asset_outside_n3 l most) = R := ⟨_, rfl⟩
  rw [HR]
  unfold s_asset_outside_n3 at HR
  have hM0 := St.start1 hB0
  refine calls_run Try.func89 rfl ?_
  refine R_seq (R_region (S_fresh none #[.int .i64 most] 3 hM0 (by kernel_rfl) (fun g1 w2 hM3 => S_val (.bool false) (by kernel_rfl) (S_nil (R_seq (R_region (S_val (.slice (some ⟨B0, 1, none⟩) 3 3) (by kernel_rfl) (S_val (.func (.func 115) #[] #[.pointer (some ⟨g1, 0, none⟩)]) (by kernel_rfl) (S_call (s_slices_ContainsFunc_g_n3 l most) (fun r : Bool => .bool r) hM3 (w_slices_ContainsFunc_g_n3 l most h_l h_most B0 _ _ g1 _ _ w2 (hM3.at 1 rfl) (hM3.at 0 rfl) (hM3.ne 0 1 rfl rfl (by decide))) (by kernel_rfl) (fun r4 h5 w6 hM7 => ?_))))))))))
  have HR := hr_lt HR h5
  cases r4
  · refine S_val (.bool false) (by kernel_rfl) (S_nil (?_))
    have HR := hr_neg HR Bool.false_ne_true
    refine R_ret hM7 rfl (.cons (.tmp _ (.bool false) (by kernel_rfl)) .nil) rfl ?_
    exact ⟨congrArg Ending.returned HR, hM7.below⟩
  · refine S_val (.bool true) (by kernel_rfl) (S_nil (?_))
    have HR := hr_pos HR rfl
    refine R_ret hM7 rfl (.cons (.tmp _ (.bool true) (by kernel_rfl)) .nil) rfl ?_
    exact ⟨congrArg Ending.returned HR, hM7.below⟩

def e_asset_Light_1 (r : Bool) : Value := .bool r
def s_asset_Light_1 (p : Int × Int × Int) : Bool :=
  lt (gmax (gmax p.1 p.2.1) p.2.2) fun x4 =>
  if x4 > 4096 then
    true
  else
    lt (gmin (gmin p.1 p.2.1) p.2.2) fun x7 =>
    if x7 < (-4096) then
      true
    else
      false
set_option maxRecDepth 100000 in
set_option maxHeartbeats 4000000 in
theorem w_asset_Light_1 (p : Int × Int × Int) (h_p : InV p) (w : World) : Calls Try.prog 88 #[.agg #[.int .i64 p.1, .int .i64 p.2.1, .int .i64 p.2.2]] w (Ret (e_asset_Light_1 (s_asset_Light_1 p)) w) := by
  obtain ⟨R, HR⟩ : ∃ R, e_asset_Light_1 (s_asset_Light_1 p) = R := ⟨_, rfl⟩
  rw [HR]
  unfold s_asset_Light_1 at HR
  have hM0 := St.start w
  refine calls_run Try.func88 rfl ?_
  refine R_seq (R_region (S_fresh none #[.int .i64 p.1, .int .i64 p.2.1, .int .i64 p.2.2] 23 hM0 (by kernel_rfl) (fun g1 w2 hM3 => S_val (.bool false) (by kernel_rfl) (S_nil (R_seq (R_region (S_val (.pointer (some ⟨g1, 0, none⟩)) (by kernel_rfl) (S_load 0 0 (.int .i64 p.1) hM3 (by kernel_rfl) (S_val (.pointer (some ⟨g1, 1, none⟩)) (by kernel_rfl) (S_load 0 1 (.int .i64 p.2.1) hM3 (by kernel_rfl) (S_val (.pointer (some ⟨g1, 2, none⟩)) (by kernel_rfl) (?_))))))))))))
  refine S_load 0 2 (.int .i64 p.2.2) hM3 (by kernel_rfl) (S_int (gmax (gmax p.1 p.2.1) p.2.2) .i64 (by kernel_rfl) (fun x4 h5 => ?_))
  have HR := hr_lt HR h5
  refine S_dec (x4 > 4096) (by kernel_rfl) (fun c6 => ?_) (fun c6 => ?_)
  · refine S_val (.bool true) (by kernel_rfl) (S_skip (by kernel_rfl) (S_skip (by kernel_rfl) (S_skip (by kernel_rfl) (S_skip (by kernel_rfl) (S_skip (by kernel_rfl) (S_skip (by kernel_rfl) (S_skip (by kernel_rfl) (S_skip (by kernel_rfl) (S_val (.bool true) (by kernel_rfl) (S_val (.bool true) (by kernel_rfl) (S_nil (?_))))))))))))
    have HR := hr_pos HR c6
    refine R_ret hM3 rfl (.cons (.tmp _ (.bool true) (by kernel_rfl)) .nil) rfl ?_
    exact ⟨congrArg Ending.returned HR, hM3.below⟩
  · refine S_val (.bool false) (by kernel_rfl) (S_val (.pointer (some ⟨g1, 0, none⟩)) (by kernel_rfl) (S_load 0 0 (.int .i64 p.1) hM3 (by kernel_rfl) (S_val (.pointer (some ⟨g1, 1, none⟩)) (by kernel_rfl) (S_load 0 1 (.int .i64 p.2.1) hM3 (by kernel_rfl) (S_val (.pointer (some ⟨g1, 2, none⟩)) (by kernel_rfl) (S_load 0 2 (.int .i64 p.2.2) hM3 (by kernel_rfl) (S_int (gmin (gmin p.1 p.2.1) p.2.2) .i64 (by kernel_rfl) (fun x7 h8 => ?_))))))))
    have HR := hr_neg HR c6
    have HR := hr_lt HR h8
    refine S_dec (x7 < (-4096)) (by kernel_rfl) (fun c9 => ?_) (fun c9 => ?_)
    · refine S_val (.bool true) (by kernel_rfl) (S_val (.bool true) (by kernel_rfl) (S_nil (?_)))
      have HR := hr_pos HR c9
      refine R_ret hM3 rfl (.cons (.tmp _ (.bool true) (by kernel_rfl)) .nil) rfl ?_
      exact ⟨congrArg Ending.returned HR, hM3.below⟩
    · refine S_val (.bool false) (by kernel_rfl) (S_val (.bool false) (by kernel_rfl) (S_nil (?_)))
      have HR := hr_neg HR c9
      refine R_ret hM3 rfl (.cons (.tmp _ (.bool false) (by kernel_rfl)) .nil) rfl ?_
      exact ⟨congrArg Ending.returned HR, hM3.below⟩

def e_asset_Light (r : Int) : Value := .int .i64 r
def s_asset_Light (l : Int × (Int × Int × Int) × (Int × Int × Int) × (Int × Int × Int) × (Int × Int × Int)) : Int :=
  lt (s_asset_outside_n1 l.1 2) fun r12 =>
  if r12 = true then
    5
  else
    lt (s_asset_outside_n3 l 1048576) fun r16 =>
    if r16 = true then
      5
    else
      lt (s_asset_Light_1 l.2.2.1) fun r20 =>
      if r20 = true then
        8
      else
        lt (s_asset_Light_1 l.2.2.2.1) fun r24 =>
        if r24 = true then
          8
        else
          lt (s_asset_Light_1 l.2.2.2.2) fun r28 =>
          if r28 = true then
            8
          else
            if l.1 = 2 then
              if (l.2.2.1 : Int × Int × Int) = (0, 0, 0) then
                if (l.2.2.2.1 : Int × Int × Int) = (0, 0, 0) then
                  if (l.2.2.2.2 : Int × Int × Int) = (0, 0, 0) then
                    0
                  else
                    5
                else
                  5
              else
                5
            else
              if l.1 = 0 then
                if (l.2.2.2.1 : Int × Int × Int) = (0, 0, 0) then
                  if (l.2.2.2.2 : Int × Int × Int) = (0, 0, 0) then
                    0
                  else
                    5
                else
                  5
              else
                0
set_option maxRecDepth 100000 in
set_option maxHeartbeats 4000000 in
theorem w_asset_Light (l : Int × (Int × Int × Int) × (Int × Int × Int) × (Int × Int × Int) × (Int × Int × Int)) (h_l : (InI l.1 ∧ InV l.2.1 ∧ InV l.2.2.1 ∧ InV l.2.2.2.1 ∧ InV l.2.2.2.2)) (w : World) : Calls Try.prog 36 #[.agg #[.int .i64 l.1, .int .i64 l.2.1.1, .int .i64 l.2.1.2.1, .int .i64 l.2.1.2.2, .int .i64 l.2.2.1.1, .int .i64 l.2.2.1.2.1, .int .i64 l.2.2.1.2.2, .int .i64 l.2.2.2.1.1, .int .i64 l.2.2.2.1.2.1, .int .i64 l.2.2.2.1.2.2, .int .i64 l.2.2.2.2.1, .int .i64 l.2.2.2.2.2.1, .int .i64 l.2.2.2.2.2.2]] w (Ret (e_asset_Light (s_asset_Light l)) w) := by
  obtain ⟨R, HR⟩ : ∃ R, e_asset_Light (s_asset_Light l) = R := ⟨_, rfl⟩
  rw [HR]
  unfold s_asset_Light at HR
  have hM0 := St.start w
  refine calls_run Try.func36 rfl ?_
  refine R_seq (R_region (S_fresh none #[.int .i64 l.1, .int .i64 l.2.1.1, .int .i64 l.2.1.2.1, .int .i64 l.2.1.2.2, .int .i64 l.2.2.1.1, .int .i64 l.2.2.1.2.1, .int .i64 l.2.2.1.2.2, .int .i64 l.2.2.2.1.1, .int .i64 l.2.2.2.1.2.1, .int .i64 l.2.2.2.1.2.2, .int .i64 l.2.2.2.2.1, .int .i64 l.2.2.2.2.2.1, .int .i64 l.2.2.2.2.2.2] 58 hM0 (by kernel_rfl) (fun g1 w2 hM3 => S_val (.int .i64 0) (by kernel_rfl) (S_nil (R_seq (R_region (S_val (.func (.func 88) #[] #[]) (by kernel_rfl) (S_nil (R_seq (R_region (S_val (.agg #[.int .i64 0, .int .i64 0, .int .i64 0]) (by kernel_rfl) (?_))))))))))))
  refine S_fresh none #[.int .i64 0, .int .i64 0, .int .i64 0] 23 hM3 (by kernel_rfl) (fun g4 w5 hM6 => S_store 0 0 #[.int .i64 0, .int .i64 0, .int .i64 0] hM6 (by kernel_rfl) (fun w7 hM8 => S_nil (R_seq (R_block (R_seq (R_region (S_val (.pointer (some ⟨g1, 0, none⟩)) (by kernel_rfl) (S_load 1 0 (.int .i64 l.1) hM8 (by kernel_rfl) (S_fresh (some 1) #[.int .i64 l.1] 3 hM8 (by kernel_rfl) (fun g9 w10 hM11 => S_call (s_asset_outside_n1 l.1 2) (fun r : Bool => .bool r) hM11 (w_asset_outside_n1 l.1 2 h_l.1 (show InI 2 from by unfold InI; omega) g9 _ _ w10 (hM11.at 0 rfl)) (by kernel_rfl) (fun r12 h13 w14 hM15 => ?_)))))))))))
  have HR := hr_lt HR h13
  cases r12
  · refine S_val (.bool false) (by kernel_rfl) (S_val (.pointer (some ⟨g1, 1, none⟩)) (by kernel_rfl) (S_val (.slice (some ⟨g1, 1, none⟩) 3 3) (by kernel_rfl) (S_call (s_asset_outside_n3 l 1048576) (fun r : Bool => .bool r) hM15 (w_asset_outside_n3 l 1048576 h_l (show InI 1048576 from by unfold InI; omega) g1 _ _ w14 (hM15.at 2 rfl)) (by kernel_rfl) (fun r16 h17 w18 hM19 => ?_))))
    have HR := hr_neg HR Bool.false_ne_true
    have HR := hr_lt HR h17
    cases r16
    · refine S_val (.bool false) (by kernel_rfl) (S_val (.bool false) (by kernel_rfl) (S_nil (R_no (by kernel_rfl) (R_seq (R_region (S_val (.func (.func 88) #[] #[]) (by kernel_rfl) (S_val (.pointer (some ⟨g1, 4, none⟩)) (by kernel_rfl) (S_load 2 4 (.agg #[.int .i64 l.2.2.1.1, .int .i64 l.2.2.1.2.1, .int .i64 l.2.2.1.2.2]) hM19 (by kernel_rfl) (S_call (s_asset_Light_1 l.2.2.1) (fun r : Bool => .bool r) hM19 (w_asset_Light_1 l.2.2.1 h_l.2.2.1 w18) (by kernel_rfl) (fun r20 h21 w22 hM23 => ?_))))))))))
      have HR := hr_neg HR Bool.false_ne_true
      have HR := hr_lt HR h21
      cases r20
      · refine S_val (.bool false) (by kernel_rfl) (S_val (.func (.func 88) #[] #[]) (by kernel_rfl) (S_val (.pointer (some ⟨g1, 7, none⟩)) (by kernel_rfl) (S_load 2 7 (.agg #[.int .i64 l.2.2.2.1.1, .int .i64 l.2.2.2.1.2.1, .int .i64 l.2.2.2.1.2.2]) hM23 (by kernel_rfl) (S_call (s_asset_Light_1 l.2.2.2.1) (fun r : Bool => .bool r) hM23 (w_asset_Light_1 l.2.2.2.1 h_l.2.2.2.1 w22) (by kernel_rfl) (fun r24 h25 w26 hM27 => ?_)))))
        have HR := hr_neg HR Bool.false_ne_true
        have HR := hr_lt HR h25
        cases r24
        · refine S_val (.bool false) (by kernel_rfl) (S_val (.bool false) (by kernel_rfl) (S_val (.func (.func 88) #[] #[]) (by kernel_rfl) (S_val (.pointer (some ⟨g1, 10, none⟩)) (by kernel_rfl) (S_load 2 10 (.agg #[.int .i64 l.2.2.2.2.1, .int .i64 l.2.2.2.2.2.1, .int .i64 l.2.2.2.2.2.2]) hM27 (by kernel_rfl) (S_call (s_asset_Light_1 l.2.2.2.2) (fun r : Bool => .bool r) hM27 (w_asset_Light_1 l.2.2.2.2 h_l.2.2.2.2 w26) (by kernel_rfl) (fun r28 h29 w30 hM31 => ?_))))))
          have HR := hr_neg HR Bool.false_ne_true
          have HR := hr_lt HR h29
          cases r28
          · refine S_val (.bool false) (by kernel_rfl) (S_val (.bool false) (by kernel_rfl) (S_nil (R_no (by kernel_rfl) (R_skip (R_inBlock (R_seq (R_seq (R_region (S_val (.pointer (some ⟨g1, 0, none⟩)) (by kernel_rfl) (S_load 2 0 (.int .i64 l.1) hM31 (by kernel_rfl) (S_nil (?_))))))))))))
            have HR := hr_neg HR Bool.false_ne_true
            refine R_block (R_seq (R_block (R_seq (R_block (R_seq (R_seq (R_seq (R_region (?_)))))))))
            refine S_dec (l.1 = 2) (by kernel_rfl) (fun c32 => ?_) (fun c32 => ?_)
            · refine S_val (.bool true) (by kernel_rfl) (S_nil (R_yes (by kernel_rfl) (R_exit rfl (R_seq (R_region (S_val (.pointer (some ⟨g1, 4, none⟩)) (by kernel_rfl) (S_load 2 4 (.agg #[.int .i64 l.2.2.1.1, .int .i64 l.2.2.1.2.1, .int .i64 l.2.2.1.2.2]) hM31 (by kernel_rfl) (S_load 1 0 (.agg #[.int .i64 0, .int .i64 0, .int .i64 0]) hM31 (by kernel_rfl) (?_)))))))))
              have HR := hr_pos HR c32
              refine S_decn ((l.2.2.1 : Int × Int × Int) = (0, 0, 0)) (eqv_umbra_api_Pointn (x := l.2.2.1) (y := (0, 0, 0)) (by kernel_rfl) (by kernel_rfl) (by kernel_rfl)) (fun c33 => ?_) (fun c33 => ?_)
              · refine S_nil (R_yes (by kernel_rfl) (R_seq (R_region (S_val (.int .i64 5) (by kernel_rfl) (S_nil (?_))))))
                have HR := hr_neg HR c33
                refine R_ret hM31 rfl (.cons (.tmp _ (.int .i64 5) (by kernel_rfl)) .nil) rfl ?_
                exact ⟨congrArg Ending.returned HR, hM31.below⟩
              · refine S_nil (R_no (by kernel_rfl) (R_skip (R_inBlock (R_seq (R_seq (R_region (S_val (.pointer (some ⟨g1, 7, none⟩)) (by kernel_rfl) (S_load 2 7 (.agg #[.int .i64 l.2.2.2.1.1, .int .i64 l.2.2.2.1.2.1, .int .i64 l.2.2.2.1.2.2]) hM31 (by kernel_rfl) (S_load 1 0 (.agg #[.int .i64 0, .int .i64 0, .int .i64 0]) hM31 (by kernel_rfl) (?_))))))))))
                have HR := hr_pos HR c33
                refine S_decn ((l.2.2.2.1 : Int × Int × Int) = (0, 0, 0)) (eqv_umbra_api_Pointn (x := l.2.2.2.1) (y := (0, 0, 0)) (by kernel_rfl) (by kernel_rfl) (by kernel_rfl)) (fun c34 => ?_) (fun c34 => ?_)
                · refine S_val (.bool true) (by kernel_rfl) (S_skip (by kernel_rfl) (S_skip (by kernel_rfl) (S_skip (by kernel_rfl) (S_skip (by kernel_rfl) (S_val (.bool true) (by kernel_rfl) (S_nil (R_yes (by kernel_rfl) (R_seq (R_region (S_val (.int .i64 5) (by kernel_rfl) (S_nil (?_))))))))))))
                  have HR := hr_neg HR c34
                  refine R_ret hM31 rfl (.cons (.tmp _ (.int .i64 5) (by kernel_rfl)) .nil) rfl ?_
                  exact ⟨congrArg Ending.returned HR, hM31.below⟩
                · refine S_val (.bool false) (by kernel_rfl) (S_val (.pointer (some ⟨g1, 10, none⟩)) (by kernel_rfl) (S_load 2 10 (.agg #[.int .i64 l.2.2.2.2.1, .int .i64 l.2.2.2.2.2.1, .int .i64 l.2.2.2.2.2.2]) hM31 (by kernel_rfl) (S_load 1 0 (.agg #[.int .i64 0, .int .i64 0, .int .i64 0]) hM31 (by kernel_rfl) (?_))))
                  have HR := hr_pos HR c34
                  refine S_decn ((l.2.2.2.2 : Int × Int × Int) = (0, 0, 0)) (eqv_umbra_api_Pointn (x := l.2.2.2.2) (y := (0, 0, 0)) (by kernel_rfl) (by kernel_rfl) (by kernel_rfl)) (fun c35 => ?_) (fun c35 => ?_)
                  · refine S_val (.bool true) (by kernel_rfl) (S_nil (R_yes (by kernel_rfl) (R_seq (R_region (S_val (.int .i64 5) (by kernel_rfl) (S_nil (?_)))))))
                    have HR := hr_neg HR c35
                    refine R_ret hM31 rfl (.cons (.tmp _ (.int .i64 5) (by kernel_rfl)) .nil) rfl ?_
                    exact ⟨congrArg Ending.returned HR, hM31.below⟩
                  · refine S_val (.bool false) (by kernel_rfl) (S_nil (R_no (by kernel_rfl) (R_skip (R_exit rfl (R_seq (R_region (S_val (.int .i64 0) (by kernel_rfl) (S_nil (?_)))))))))
                    have HR := hr_pos HR c35
                    refine R_ret hM31 rfl (.cons (.tmp _ (.int .i64 0) (by kernel_rfl)) .nil) rfl ?_
                    exact ⟨congrArg Ending.returned HR, hM31.below⟩
            · refine S_val (.bool false) (by kernel_rfl) (S_nil (R_no (by kernel_rfl) (R_skip (R_seq (R_region (?_))))))
              have HR := hr_neg HR c32
              refine S_dec (l.1 = 0) (by kernel_rfl) (fun c36 => ?_) (fun c36 => ?_)
              · refine S_val (.bool true) (by kernel_rfl) (S_nil (R_yes (by kernel_rfl) (R_exit rfl (R_seq (R_seq (R_region (S_val (.pointer (some ⟨g1, 7, none⟩)) (by kernel_rfl) (S_load 2 7 (.agg #[.int .i64 l.2.2.2.1.1, .int .i64 l.2.2.2.1.2.1, .int .i64 l.2.2.2.1.2.2]) hM31 (by kernel_rfl) (S_load 1 0 (.agg #[.int .i64 0, .int .i64 0, .int .i64 0]) hM31 (by kernel_rfl) (?_))))))))))
                have HR := hr_pos HR c36
                refine S_decn ((l.2.2.2.1 : Int × Int × Int) = (0, 0, 0)) (eqv_umbra_api_Pointn (x := l.2.2.2.1) (y := (0, 0, 0)) (by kernel_rfl) (by kernel_rfl) (by kernel_rfl)) (fun c37 => ?_) (fun c37 => ?_)
                · refine S_val (.bool true) (by kernel_rfl) (S_skip (by kernel_rfl) (S_skip (by kernel_rfl) (S_skip (by kernel_rfl) (S_skip (by kernel_rfl) (S_val (.bool true) (by kernel_rfl) (S_nil (R_yes (by kernel_rfl) (R_seq (R_region (S_val (.int .i64 5) (by kernel_rfl) (S_nil (?_))))))))))))
                  have HR := hr_neg HR c37
                  refine R_ret hM31 rfl (.cons (.tmp _ (.int .i64 5) (by kernel_rfl)) .nil) rfl ?_
                  exact ⟨congrArg Ending.returned HR, hM31.below⟩
                · refine S_val (.bool false) (by kernel_rfl) (S_val (.pointer (some ⟨g1, 10, none⟩)) (by kernel_rfl) (S_load 2 10 (.agg #[.int .i64 l.2.2.2.2.1, .int .i64 l.2.2.2.2.2.1, .int .i64 l.2.2.2.2.2.2]) hM31 (by kernel_rfl) (S_load 1 0 (.agg #[.int .i64 0, .int .i64 0, .int .i64 0]) hM31 (by kernel_rfl) (?_))))
                  have HR := hr_pos HR c37
                  refine S_decn ((l.2.2.2.2 : Int × Int × Int) = (0, 0, 0)) (eqv_umbra_api_Pointn (x := l.2.2.2.2) (y := (0, 0, 0)) (by kernel_rfl) (by kernel_rfl) (by kernel_rfl)) (fun c38 => ?_) (fun c38 => ?_)
                  · refine S_val (.bool true) (by kernel_rfl) (S_nil (R_yes (by kernel_rfl) (R_seq (R_region (S_val (.int .i64 5) (by kernel_rfl) (S_nil (?_)))))))
                    have HR := hr_neg HR c38
                    refine R_ret hM31 rfl (.cons (.tmp _ (.int .i64 5) (by kernel_rfl)) .nil) rfl ?_
                    exact ⟨congrArg Ending.returned HR, hM31.below⟩
                  · refine S_val (.bool false) (by kernel_rfl) (S_nil (R_no (by kernel_rfl) (R_skip (R_exit rfl (R_seq (R_region (S_val (.int .i64 0) (by kernel_rfl) (S_nil (?_)))))))))
                    have HR := hr_pos HR c38
                    refine R_ret hM31 rfl (.cons (.tmp _ (.int .i64 0) (by kernel_rfl)) .nil) rfl ?_
                    exact ⟨congrArg Ending.returned HR, hM31.below⟩
              · refine S_val (.bool false) (by kernel_rfl) (S_nil (R_no (by kernel_rfl) (R_skip (R_exit rfl (R_seq (R_region (S_val (.int .i64 0) (by kernel_rfl) (S_nil (?_)))))))))
                have HR := hr_neg HR c36
                refine R_ret hM31 rfl (.cons (.tmp _ (.int .i64 0) (by kernel_rfl)) .nil) rfl ?_
                exact ⟨congrArg Ending.returned HR, hM31.below⟩
          · refine S_val (.bool true) (by kernel_rfl) (S_val (.bool true) (by kernel_rfl) (S_nil (R_yes (by kernel_rfl) (R_seq (R_region (S_val (.int .i64 8) (by kernel_rfl) (S_nil (?_))))))))
            have HR := hr_pos HR rfl
            refine R_ret hM31 rfl (.cons (.tmp _ (.int .i64 8) (by kernel_rfl)) .nil) rfl ?_
            exact ⟨congrArg Ending.returned HR, hM31.below⟩
        · refine S_val (.bool true) (by kernel_rfl) (S_val (.bool true) (by kernel_rfl) (S_skip (by kernel_rfl) (S_skip (by kernel_rfl) (S_skip (by kernel_rfl) (S_skip (by kernel_rfl) (S_val (.bool true) (by kernel_rfl) (S_val (.bool true) (by kernel_rfl) (S_nil (R_yes (by kernel_rfl) (R_seq (R_region (?_))))))))))))
          have HR := hr_pos HR rfl
          refine S_val (.int .i64 8) (by kernel_rfl) (S_nil (?_))
          refine R_ret hM27 rfl (.cons (.tmp _ (.int .i64 8) (by kernel_rfl)) .nil) rfl ?_
          exact ⟨congrArg Ending.returned HR, hM27.below⟩
      · refine S_val (.bool true) (by kernel_rfl) (S_skip (by kernel_rfl) (S_skip (by kernel_rfl) (S_skip (by kernel_rfl) (S_skip (by kernel_rfl) (S_val (.bool true) (by kernel_rfl) (S_val (.bool true) (by kernel_rfl) (S_skip (by kernel_rfl) (S_skip (by kernel_rfl) (S_skip (by kernel_rfl) (S_skip (by kernel_rfl) (S_val (.bool true) (by kernel_rfl) (?_))))))))))))
        have HR := hr_pos HR rfl
        refine S_val (.bool true) (by kernel_rfl) (S_nil (R_yes (by kernel_rfl) (R_seq (R_region (S_val (.int .i64 8) (by kernel_rfl) (S_nil (?_)))))))
        refine R_ret hM23 rfl (.cons (.tmp _ (.int .i64 8) (by kernel_rfl)) .nil) rfl ?_
        exact ⟨congrArg Ending.returned HR, hM23.below⟩
    · refine S_val (.bool true) (by kernel_rfl) (S_val (.bool true) (by kernel_rfl) (S_nil (R_yes (by kernel_rfl) (R_seq (R_region (S_val (.int .i64 5) (by kernel_rfl) (S_nil (?_))))))))
      have HR := hr_pos HR rfl
      refine R_ret hM19 rfl (.cons (.tmp _ (.int .i64 5) (by kernel_rfl)) .nil) rfl ?_
      exact ⟨congrArg Ending.returned HR, hM19.below⟩
  · refine S_val (.bool true) (by kernel_rfl) (S_skip (by kernel_rfl) (S_skip (by kernel_rfl) (S_skip (by kernel_rfl) (S_val (.bool true) (by kernel_rfl) (S_val (.bool true) (by kernel_rfl) (S_nil (R_yes (by kernel_rfl) (R_seq (R_region (S_val (.int .i64 5) (by kernel_rfl) (S_nil (?_))))))))))))
    have HR := hr_pos HR rfl
    refine R_ret hM15 rfl (.cons (.tmp _ (.int .i64 5) (by kernel_rfl)) .nil) rfl ?_
    exact ⟨congrArg Ending.returned HR, hM15.below⟩

def P_asset_Light (r : Int) : Prop := InI r
theorem i_asset_Light (l : Int × (Int × Int × Int) × (Int × Int × Int) × (Int × Int × Int) × (Int × Int × Int)) (h_l : (InI l.1 ∧ InV l.2.1 ∧ InV l.2.2.1 ∧ InV l.2.2.2.1 ∧ InV l.2.2.2.2)) : P_asset_Light (s_asset_Light l) := by
  unfold s_asset_Light
  exact (lt_P fun r12 h13 => (ite_P (fun c43 => (show InI 5 from (show InI 5 from by unfold InI; omega))) (fun c43 => (lt_P fun r16 h17 => (ite_P (fun c42 => (show InI 5 from (show InI 5 from by unfold InI; omega))) (fun c42 => (lt_P fun r20 h21 => (ite_P (fun c41 => (show InI 8 from (show InI 8 from by unfold InI; omega))) (fun c41 => (lt_P fun r24 h25 => (ite_P (fun c40 => (show InI 8 from (show InI 8 from by unfold InI; omega))) (fun c40 => (lt_P fun r28 h29 => (ite_P (fun c39 => (show InI 8 from (show InI 8 from by unfold InI; omega))) (fun c39 => (ite_P (fun c32 => (ite_P (fun c33 => (ite_P (fun c34 => (ite_P (fun c35 => (show InI 0 from (show InI 0 from by unfold InI; omega))) (fun c35 => (show InI 5 from (show InI 5 from by unfold InI; omega))))) (fun c34 => (show InI 5 from (show InI 5 from by unfold InI; omega))))) (fun c33 => (show InI 5 from (show InI 5 from by unfold InI; omega))))) (fun c32 => (ite_P (fun c36 => (ite_P (fun c37 => (ite_P (fun c38 => (show InI 0 from (show InI 0 from by unfold InI; omega))) (fun c38 => (show InI 5 from (show InI 5 from by unfold InI; omega))))) (fun c37 => (show InI 5 from (show InI 5 from by unfold InI; omega))))) (fun c36 => (show InI 0 from (show InI 0 from by unfold InI; omega)))))))))))))))))))))

def e_umbraref15_Light (r : Int) : Value := .int .i64 r
def s_umbraref15_Light (l : Int × (Int × Int × Int) × (Int × Int × Int) × (Int × Int × Int) × (Int × Int × Int)) : Int :=
  if l.1 < 0 then
    5
  else
    if l.1 > 2 then
      5
    else
      if l.2.1.1 < 0 then
        5
      else
        if l.2.1.1 > 1048576 then
          5
        else
          if l.2.1.2.1 < 0 then
            5
          else
            if l.2.1.2.1 > 1048576 then
              5
            else
              if l.2.1.2.2 < 0 then
                5
              else
                if l.2.1.2.2 > 1048576 then
                  5
                else
                  lt (s_umbraref13_Off l.2.2.1 4096) fun r12 =>
                  if r12 = true then
                    8
                  else
                    lt (s_umbraref13_Off l.2.2.2.1 4096) fun r16 =>
                    if r16 = true then
                      8
                    else
                      lt (s_umbraref13_Off l.2.2.2.2 4096) fun r20 =>
                      if r20 = true then
                        8
                      else
                        if l.1 = 2 then
                          if (l.2.2.1 : Int × Int × Int) = (0, 0, 0) then
                            if l.1 = 1 then
                              0
                            else
                              if (l.2.2.2.1 : Int × Int × Int) = (0, 0, 0) then
                                if (l.2.2.2.2 : Int × Int × Int) = (0, 0, 0) then
                                  0
                                else
                                  5
                              else
                                5
                          else
                            5
                        else
                          if l.1 = 1 then
                            0
                          else
                            if (l.2.2.2.1 : Int × Int × Int) = (0, 0, 0) then
                              if (l.2.2.2.2 : Int × Int × Int) = (0, 0, 0) then
                                0
                              else
                                5
                            else
                              5
set_option maxRecDepth 100000 in
set_option maxHeartbeats 4000000 in
theorem w_umbraref15_Light (l : Int × (Int × Int × Int) × (Int × Int × Int) × (Int × Int × Int) × (Int × Int × Int)) (h_l : (InI l.1 ∧ InV l.2.1 ∧ InV l.2.2.1 ∧ InV l.2.2.2.1 ∧ InV l.2.2.2.2)) (w : World) : Calls Try.prog 79 #[.agg #[.int .i64 l.1, .int .i64 l.2.1.1, .int .i64 l.2.1.2.1, .int .i64 l.2.1.2.2, .int .i64 l.2.2.1.1, .int .i64 l.2.2.1.2.1, .int .i64 l.2.2.1.2.2, .int .i64 l.2.2.2.1.1, .int .i64 l.2.2.2.1.2.1, .int .i64 l.2.2.2.1.2.2, .int .i64 l.2.2.2.2.1, .int .i64 l.2.2.2.2.2.1, .int .i64 l.2.2.2.2.2.2]] w (Ret (e_umbraref15_Light (s_umbraref15_Light l)) w) := by
  obtain ⟨R, HR⟩ : ∃ R, e_umbraref15_Light (s_umbraref15_Light l) = R := ⟨_, rfl⟩
  rw [HR]
  unfold s_umbraref15_Light at HR
  have hM0 := St.start w
  refine calls_run Try.func79 rfl ?_
  refine R_seq (R_region (S_fresh none #[.int .i64 l.1, .int .i64 l.2.1.1, .int .i64 l.2.1.2.1, .int .i64 l.2.1.2.2, .int .i64 l.2.2.1.1, .int .i64 l.2.2.1.2.1, .int .i64 l.2.2.1.2.2, .int .i64 l.2.2.2.1.1, .int .i64 l.2.2.2.1.2.1, .int .i64 l.2.2.2.1.2.2, .int .i64 l.2.2.2.2.1, .int .i64 l.2.2.2.2.2.1, .int .i64 l.2.2.2.2.2.2] 58 hM0 (by kernel_rfl) (fun g1 w2 hM3 => S_val (.int .i64 0) (by kernel_rfl) (S_nil (R_seq (R_seq (R_region (S_val (.pointer (some ⟨g1, 0, none⟩)) (by kernel_rfl) (S_load 0 0 (.int .i64 l.1) hM3 (by kernel_rfl) (?_))))))))))
  refine S_dec (l.1 < 0) (by kernel_rfl) (fun c4 => ?_) (fun c4 => ?_)
  · refine S_val (.bool true) (by kernel_rfl) (S_skip (by kernel_rfl) (S_skip (by kernel_rfl) (S_skip (by kernel_rfl) (S_val (.bool true) (by kernel_rfl) (S_nil (R_yes (by kernel_rfl) (R_seq (R_region (S_val (.int .i64 5) (by kernel_rfl) (S_nil (?_)))))))))))
    have HR := hr_pos HR c4
    refine R_ret hM3 rfl (.cons (.tmp _ (.int .i64 5) (by kernel_rfl)) .nil) rfl ?_
    exact ⟨congrArg Ending.returned HR, hM3.below⟩
  · refine S_val (.bool false) (by kernel_rfl) (S_val (.pointer (some ⟨g1, 0, none⟩)) (by kernel_rfl) (S_load 0 0 (.int .i64 l.1) hM3 (by kernel_rfl) (?_)))
    have HR := hr_neg HR c4
    refine S_dec (l.1 > 2) (by kernel_rfl) (fun c5 => ?_) (fun c5 => ?_)
    · refine S_val (.bool true) (by kernel_rfl) (S_nil (R_yes (by kernel_rfl) (R_seq (R_region (S_val (.int .i64 5) (by kernel_rfl) (S_nil (?_)))))))
      have HR := hr_pos HR c5
      refine R_ret hM3 rfl (.cons (.tmp _ (.int .i64 5) (by kernel_rfl)) .nil) rfl ?_
      exact ⟨congrArg Ending.returned HR, hM3.below⟩
    · refine S_val (.bool false) (by kernel_rfl) (S_nil (R_no (by kernel_rfl) (R_skip (R_seq (R_seq (R_region (S_val (.int .i64 0) (by kernel_rfl) (S_nil (R_block (R_loop (R_seq (?_))))))))))))
      have HR := hr_neg HR c5
      refine R_seq (R_region (S_val (.int .i64 0) (by kernel_rfl) (S_val (.bool true) (by kernel_rfl) (S_nil (R_yes (by kernel_rfl) (R_skip (R_seq (R_block (R_seq (R_region (S_val (.int .i64 0) (by kernel_rfl) (?_))))))))))))
      refine S_val (.pointer (some ⟨g1, 1, none⟩)) (by kernel_rfl) (S_val (.pointer (some ⟨g1, 1, none⟩)) (by kernel_rfl) (S_load 0 1 (.int .i64 l.2.1.1) hM3 (by kernel_rfl) (?_)))
      refine S_dec (l.2.1.1 < 0) (by kernel_rfl) (fun c6 => ?_) (fun c6 => ?_)
      · refine S_val (.bool true) (by kernel_rfl) (S_skip (by kernel_rfl) (S_skip (by kernel_rfl) (S_skip (by kernel_rfl) (S_skip (by kernel_rfl) (S_skip (by kernel_rfl) (S_val (.bool true) (by kernel_rfl) (S_nil (R_yes (by kernel_rfl) (R_seq (R_region (S_val (.int .i64 5) (by kernel_rfl) (?_))))))))))))
        have HR := hr_pos HR c6
        refine S_nil (?_)
        refine R_ret hM3 rfl (.cons (.tmp _ (.int .i64 5) (by kernel_rfl)) .nil) rfl ?_
        exact ⟨congrArg Ending.returned HR, hM3.below⟩
      · refine S_val (.bool false) (by kernel_rfl) (S_val (.int .i64 0) (by kernel_rfl) (S_val (.pointer (some ⟨g1, 1, none⟩)) (by kernel_rfl) (S_val (.pointer (some ⟨g1, 1, none⟩)) (by kernel_rfl) (S_load 0 1 (.int .i64 l.2.1.1) hM3 (by kernel_rfl) (?_)))))
        have HR := hr_neg HR c6
        refine S_dec (l.2.1.1 > 1048576) (by kernel_rfl) (fun c7 => ?_) (fun c7 => ?_)
        · refine S_val (.bool true) (by kernel_rfl) (S_nil (R_yes (by kernel_rfl) (R_seq (R_region (S_val (.int .i64 5) (by kernel_rfl) (S_nil (?_)))))))
          have HR := hr_pos HR c7
          refine R_ret hM3 rfl (.cons (.tmp _ (.int .i64 5) (by kernel_rfl)) .nil) rfl ?_
          exact ⟨congrArg Ending.returned HR, hM3.below⟩
        · refine S_val (.bool false) (by kernel_rfl) (S_nil (R_no (by kernel_rfl) (R_skip (R_inBlock (R_region (S_val (.int .i64 0) (by kernel_rfl) (S_val (.int .i64 1) (by kernel_rfl) (S_val (.int .i64 1) (by kernel_rfl) (S_nil (R_inLoop (R_seq (?_))))))))))))
          have HR := hr_neg HR c7
          refine R_seq (R_region (S_val (.int .i64 1) (by kernel_rfl) (S_val (.bool true) (by kernel_rfl) (S_nil (R_yes (by kernel_rfl) (R_skip (R_seq (R_block (R_seq (R_region (S_val (.int .i64 1) (by kernel_rfl) (?_))))))))))))
          refine S_val (.pointer (some ⟨g1, 1, none⟩)) (by kernel_rfl) (S_val (.pointer (some ⟨g1, 2, none⟩)) (by kernel_rfl) (S_load 0 2 (.int .i64 l.2.1.2.1) hM3 (by kernel_rfl) (?_)))
          refine S_dec (l.2.1.2.1 < 0) (by kernel_rfl) (fun c8 => ?_) (fun c8 => ?_)
          · refine S_val (.bool true) (by kernel_rfl) (S_skip (by kernel_rfl) (S_skip (by kernel_rfl) (S_skip (by kernel_rfl) (S_skip (by kernel_rfl) (S_skip (by kernel_rfl) (S_val (.bool true) (by kernel_rfl) (S_nil (R_yes (by kernel_rfl) (R_seq (R_region (S_val (.int .i64 5) (by kernel_rfl) (?_))))))))))))
            have HR := hr_pos HR c8
            refine S_nil (?_)
            refine R_ret hM3 rfl (.cons (.tmp _ (.int .i64 5) (by kernel_rfl)) .nil) rfl ?_
            exact ⟨congrArg Ending.returned HR, hM3.below⟩
          · refine S_val (.bool false) (by kernel_rfl) (S_val (.int .i64 1) (by kernel_rfl) (S_val (.pointer (some ⟨g1, 1, none⟩)) (by kernel_rfl) (S_val (.pointer (some ⟨g1, 2, none⟩)) (by kernel_rfl) (S_load 0 2 (.int .i64 l.2.1.2.1) hM3 (by kernel_rfl) (?_)))))
            have HR := hr_neg HR c8
            refine S_dec (l.2.1.2.1 > 1048576) (by kernel_rfl) (fun c9 => ?_) (fun c9 => ?_)
            · refine S_val (.bool true) (by kernel_rfl) (S_nil (R_yes (by kernel_rfl) (R_seq (R_region (S_val (.int .i64 5) (by kernel_rfl) (S_nil (?_)))))))
              have HR := hr_pos HR c9
              refine R_ret hM3 rfl (.cons (.tmp _ (.int .i64 5) (by kernel_rfl)) .nil) rfl ?_
              exact ⟨congrArg Ending.returned HR, hM3.below⟩
            · refine S_val (.bool false) (by kernel_rfl) (S_nil (R_no (by kernel_rfl) (R_skip (R_inBlock (R_region (S_val (.int .i64 1) (by kernel_rfl) (S_val (.int .i64 2) (by kernel_rfl) (S_val (.int .i64 2) (by kernel_rfl) (S_nil (R_inLoop (R_seq (?_))))))))))))
              have HR := hr_neg HR c9
              refine R_seq (R_region (S_val (.int .i64 2) (by kernel_rfl) (S_val (.bool true) (by kernel_rfl) (S_nil (R_yes (by kernel_rfl) (R_skip (R_seq (R_block (R_seq (R_region (S_val (.int .i64 2) (by kernel_rfl) (?_))))))))))))
              refine S_val (.pointer (some ⟨g1, 1, none⟩)) (by kernel_rfl) (S_val (.pointer (some ⟨g1, 3, none⟩)) (by kernel_rfl) (S_load 0 3 (.int .i64 l.2.1.2.2) hM3 (by kernel_rfl) (?_)))
              refine S_dec (l.2.1.2.2 < 0) (by kernel_rfl) (fun c10 => ?_) (fun c10 => ?_)
              · refine S_val (.bool true) (by kernel_rfl) (S_skip (by kernel_rfl) (S_skip (by kernel_rfl) (S_skip (by kernel_rfl) (S_skip (by kernel_rfl) (S_skip (by kernel_rfl) (S_val (.bool true) (by kernel_rfl) (S_nil (R_yes (by kernel_rfl) (R_seq (R_region (S_val (.int .i64 5) (by kernel_rfl) (?_))))))))))))
                have HR := hr_pos HR c10
                refine S_nil (?_)
                refine R_ret hM3 rfl (.cons (.tmp _ (.int .i64 5) (by kernel_rfl)) .nil) rfl ?_
                exact ⟨congrArg Ending.returned HR, hM3.below⟩
              · refine S_val (.bool false) (by kernel_rfl) (S_val (.int .i64 2) (by kernel_rfl) (S_val (.pointer (some ⟨g1, 1, none⟩)) (by kernel_rfl) (S_val (.pointer (some ⟨g1, 3, none⟩)) (by kernel_rfl) (S_load 0 3 (.int .i64 l.2.1.2.2) hM3 (by kernel_rfl) (?_)))))
                have HR := hr_neg HR c10
                refine S_dec (l.2.1.2.2 > 1048576) (by kernel_rfl) (fun c11 => ?_) (fun c11 => ?_)
                · refine S_val (.bool true) (by kernel_rfl) (S_nil (R_yes (by kernel_rfl) (R_seq (R_region (S_val (.int .i64 5) (by kernel_rfl) (S_nil (?_)))))))
                  have HR := hr_pos HR c11
                  refine R_ret hM3 rfl (.cons (.tmp _ (.int .i64 5) (by kernel_rfl)) .nil) rfl ?_
                  exact ⟨congrArg Ending.returned HR, hM3.below⟩
                · refine S_val (.bool false) (by kernel_rfl) (S_nil (R_no (by kernel_rfl) (R_skip (R_inBlock (R_region (S_val (.int .i64 2) (by kernel_rfl) (S_val (.int .i64 3) (by kernel_rfl) (S_val (.int .i64 3) (by kernel_rfl) (S_nil (R_inLoop (R_seq (?_))))))))))))
                  have HR := hr_neg HR c11
                  refine R_seq (R_region (S_val (.int .i64 3) (by kernel_rfl) (S_val (.bool false) (by kernel_rfl) (S_nil (R_no (by kernel_rfl) (R_exit rfl (R_seq (R_seq (R_region (S_val (.pointer (some ⟨g1, 4, none⟩)) (by kernel_rfl) (S_load 0 4 (.agg #[.int .i64 l.2.2.1.1, .int .i64 l.2.2.1.2.1, .int .i64 l.2.2.1.2.2]) hM3 (by kernel_rfl) (?_))))))))))))
                  refine S_call (s_umbraref13_Off l.2.2.1 4096) (fun r : Bool => .bool r) hM3 (w_umbraref13_Off l.2.2.1 4096 h_l.2.2.1 (show InI 4096 from by unfold InI; omega) w2) (by kernel_rfl) (fun r12 h13 w14 hM15 => ?_)
                  have HR := hr_lt HR h13
                  cases r12
                  · refine S_val (.bool false) (by kernel_rfl) (S_val (.pointer (some ⟨g1, 7, none⟩)) (by kernel_rfl) (S_load 0 7 (.agg #[.int .i64 l.2.2.2.1.1, .int .i64 l.2.2.2.1.2.1, .int .i64 l.2.2.2.1.2.2]) hM15 (by kernel_rfl) (S_call (s_umbraref13_Off l.2.2.2.1 4096) (fun r : Bool => .bool r) hM15 (w_umbraref13_Off l.2.2.2.1 4096 h_l.2.2.2.1 (show InI 4096 from by unfold InI; omega) w14) (by kernel_rfl) (fun r16 h17 w18 hM19 => ?_))))
                    have HR := hr_neg HR Bool.false_ne_true
                    have HR := hr_lt HR h17
                    cases r16
                    · refine S_val (.bool false) (by kernel_rfl) (S_val (.bool false) (by kernel_rfl) (S_val (.pointer (some ⟨g1, 10, none⟩)) (by kernel_rfl) (S_load 0 10 (.agg #[.int .i64 l.2.2.2.2.1, .int .i64 l.2.2.2.2.2.1, .int .i64 l.2.2.2.2.2.2]) hM19 (by kernel_rfl) (S_call (s_umbraref13_Off l.2.2.2.2 4096) (fun r : Bool => .bool r) hM19 (w_umbraref13_Off l.2.2.2.2 4096 h_l.2.2.2.2 (show InI 4096 from by unfold InI; omega) w18) (by kernel_rfl) (fun r20 h21 w22 hM23 => ?_)))))
                      have HR := hr_neg HR Bool.false_ne_true
                      have HR := hr_lt HR h21
                      cases r20
                      · refine S_val (.bool false) (by kernel_rfl) (S_nil (R_no (by kernel_rfl) (R_skip (R_seq (R_region (S_val (.agg #[.int .i64 0, .int .i64 0, .int .i64 0]) (by kernel_rfl) (S_fresh none #[.int .i64 0, .int .i64 0, .int .i64 0] 23 hM23 (by kernel_rfl) (fun g24 w25 hM26 => S_store 0 0 #[.int .i64 0, .int .i64 0, .int .i64 0] hM26 (by kernel_rfl) (fun w27 hM28 => S_nil (R_seq (R_seq (?_))))))))))))
                        have HR := hr_neg HR Bool.false_ne_true
                        refine R_region (S_val (.pointer (some ⟨g1, 0, none⟩)) (by kernel_rfl) (S_load 1 0 (.int .i64 l.1) hM28 (by kernel_rfl) (?_)))
                        refine S_dec (l.1 = 2) (by kernel_rfl) (fun c29 => ?_) (fun c29 => ?_)
                        · refine S_val (.bool true) (by kernel_rfl) (S_val (.pointer (some ⟨g1, 4, none⟩)) (by kernel_rfl) (S_load 1 4 (.agg #[.int .i64 l.2.2.1.1, .int .i64 l.2.2.1.2.1, .int .i64 l.2.2.1.2.2]) hM28 (by kernel_rfl) (S_load 0 0 (.agg #[.int .i64 0, .int .i64 0, .int .i64 0]) hM28 (by kernel_rfl) (?_))))
                          have HR := hr_pos HR c29
                          refine S_decn ((l.2.2.1 : Int × Int × Int) = (0, 0, 0)) (eqv_umbra_api_Pointn (x := l.2.2.1) (y := (0, 0, 0)) (by kernel_rfl) (by kernel_rfl) (by kernel_rfl)) (fun c30 => ?_) (fun c30 => ?_)
                          · refine S_val (.bool true) (by kernel_rfl) (S_val (.bool true) (by kernel_rfl) (S_skip (by kernel_rfl) (S_skip (by kernel_rfl) (S_skip (by kernel_rfl) (S_skip (by kernel_rfl) (S_skip (by kernel_rfl) (S_skip (by kernel_rfl) (S_skip (by kernel_rfl) (S_skip (by kernel_rfl) (S_skip (by kernel_rfl) (S_skip (by kernel_rfl) (?_))))))))))))
                            have HR := hr_neg HR c30
                            refine S_skip (by kernel_rfl) (S_skip (by kernel_rfl) (S_skip (by kernel_rfl) (S_skip (by kernel_rfl) (S_skip (by kernel_rfl) (S_val (.bool true) (by kernel_rfl) (S_nil (R_yes (by kernel_rfl) (R_seq (R_region (S_val (.int .i64 5) (by kernel_rfl) (S_nil (?_))))))))))))
                            refine R_ret hM28 rfl (.cons (.tmp _ (.int .i64 5) (by kernel_rfl)) .nil) rfl ?_
                            exact ⟨congrArg Ending.returned HR, hM28.below⟩
                          · refine S_val (.bool false) (by kernel_rfl) (S_val (.bool false) (by kernel_rfl) (S_val (.pointer (some ⟨g1, 0, none⟩)) (by kernel_rfl) (S_load 1 0 (.int .i64 l.1) hM28 (by kernel_rfl) (?_))))
                            have HR := hr_pos HR c30
                            refine S_decn (l.1 = 1) (by kernel_rfl) (fun c31 => ?_) (fun c31 => ?_)
                            · refine S_val (.bool true) (by kernel_rfl) (S_val (.pointer (some ⟨g1, 7, none⟩)) (by kernel_rfl) (S_load 1 7 (.agg #[.int .i64 l.2.2.2.1.1, .int .i64 l.2.2.2.1.2.1, .int .i64 l.2.2.2.1.2.2]) hM28 (by kernel_rfl) (S_load 0 0 (.agg #[.int .i64 0, .int .i64 0, .int .i64 0]) hM28 (by kernel_rfl) (?_))))
                              have HR := hr_neg HR c31
                              refine S_decn ((l.2.2.2.1 : Int × Int × Int) = (0, 0, 0)) (eqv_umbra_api_Pointn (x := l.2.2.2.1) (y := (0, 0, 0)) (by kernel_rfl) (by kernel_rfl) (by kernel_rfl)) (fun c32 => ?_) (fun c32 => ?_)
                              · refine S_val (.bool true) (by kernel_rfl) (S_skip (by kernel_rfl) (S_skip (by kernel_rfl) (S_skip (by kernel_rfl) (S_skip (by kernel_rfl) (S_val (.bool true) (by kernel_rfl) (S_val (.bool true) (by kernel_rfl) (S_val (.bool true) (by kernel_rfl) (S_nil (R_yes (by kernel_rfl) (R_seq (R_region (?_))))))))))))
                                have HR := hr_neg HR c32
                                refine S_val (.int .i64 5) (by kernel_rfl) (S_nil (?_))
                                refine R_ret hM28 rfl (.cons (.tmp _ (.int .i64 5) (by kernel_rfl)) .nil) rfl ?_
                                exact ⟨congrArg Ending.returned HR, hM28.below⟩
                              · refine S_val (.bool false) (by kernel_rfl) (S_val (.pointer (some ⟨g1, 10, none⟩)) (by kernel_rfl) (S_load 1 10 (.agg #[.int .i64 l.2.2.2.2.1, .int .i64 l.2.2.2.2.2.1, .int .i64 l.2.2.2.2.2.2]) hM28 (by kernel_rfl) (S_load 0 0 (.agg #[.int .i64 0, .int .i64 0, .int .i64 0]) hM28 (by kernel_rfl) (?_))))
                                have HR := hr_pos HR c32
                                refine S_decn ((l.2.2.2.2 : Int × Int × Int) = (0, 0, 0)) (eqv_umbra_api_Pointn (x := l.2.2.2.2) (y := (0, 0, 0)) (by kernel_rfl) (by kernel_rfl) (by kernel_rfl)) (fun c33 => ?_) (fun c33 => ?_)
                                · refine S_val (.bool true) (by kernel_rfl) (S_val (.bool true) (by kernel_rfl) (S_val (.bool true) (by kernel_rfl) (S_nil (R_yes (by kernel_rfl) (R_seq (R_region (S_val (.int .i64 5) (by kernel_rfl) (S_nil (?_)))))))))
                                  have HR := hr_neg HR c33
                                  refine R_ret hM28 rfl (.cons (.tmp _ (.int .i64 5) (by kernel_rfl)) .nil) rfl ?_
                                  exact ⟨congrArg Ending.returned HR, hM28.below⟩
                                · refine S_val (.bool false) (by kernel_rfl) (S_val (.bool false) (by kernel_rfl) (S_val (.bool false) (by kernel_rfl) (S_nil (R_no (by kernel_rfl) (R_skip (R_seq (R_region (S_val (.int .i64 0) (by kernel_rfl) (S_nil (?_))))))))))
                                  have HR := hr_pos HR c33
                                  refine R_ret hM28 rfl (.cons (.tmp _ (.int .i64 0) (by kernel_rfl)) .nil) rfl ?_
                                  exact ⟨congrArg Ending.returned HR, hM28.below⟩
                            · refine S_val (.bool false) (by kernel_rfl) (S_skip (by kernel_rfl) (S_skip (by kernel_rfl) (S_skip (by kernel_rfl) (S_skip (by kernel_rfl) (S_skip (by kernel_rfl) (S_skip (by kernel_rfl) (S_skip (by kernel_rfl) (S_skip (by kernel_rfl) (S_skip (by kernel_rfl) (S_skip (by kernel_rfl) (S_val (.bool false) (by kernel_rfl) (?_))))))))))))
                              have HR := hr_pos HR c31
                              refine S_val (.bool false) (by kernel_rfl) (S_nil (R_no (by kernel_rfl) (R_skip (R_seq (R_region (S_val (.int .i64 0) (by kernel_rfl) (S_nil (?_))))))))
                              refine R_ret hM28 rfl (.cons (.tmp _ (.int .i64 0) (by kernel_rfl)) .nil) rfl ?_
                              exact ⟨congrArg Ending.returned HR, hM28.below⟩
                        · refine S_val (.bool false) (by kernel_rfl) (S_skip (by kernel_rfl) (S_skip (by kernel_rfl) (S_skip (by kernel_rfl) (S_skip (by kernel_rfl) (S_val (.bool false) (by kernel_rfl) (S_val (.bool false) (by kernel_rfl) (S_val (.pointer (some ⟨g1, 0, none⟩)) (by kernel_rfl) (S_load 1 0 (.int .i64 l.1) hM28 (by kernel_rfl) (?_)))))))))
                          have HR := hr_neg HR c29
                          refine S_decn (l.1 = 1) (by kernel_rfl) (fun c34 => ?_) (fun c34 => ?_)
                          · refine S_val (.bool true) (by kernel_rfl) (S_val (.pointer (some ⟨g1, 7, none⟩)) (by kernel_rfl) (S_load 1 7 (.agg #[.int .i64 l.2.2.2.1.1, .int .i64 l.2.2.2.1.2.1, .int .i64 l.2.2.2.1.2.2]) hM28 (by kernel_rfl) (S_load 0 0 (.agg #[.int .i64 0, .int .i64 0, .int .i64 0]) hM28 (by kernel_rfl) (?_))))
                            have HR := hr_neg HR c34
                            refine S_decn ((l.2.2.2.1 : Int × Int × Int) = (0, 0, 0)) (eqv_umbra_api_Pointn (x := l.2.2.2.1) (y := (0, 0, 0)) (by kernel_rfl) (by kernel_rfl) (by kernel_rfl)) (fun c35 => ?_) (fun c35 => ?_)
                            · refine S_val (.bool true) (by kernel_rfl) (S_skip (by kernel_rfl) (S_skip (by kernel_rfl) (S_skip (by kernel_rfl) (S_skip (by kernel_rfl) (S_val (.bool true) (by kernel_rfl) (S_val (.bool true) (by kernel_rfl) (S_val (.bool true) (by kernel_rfl) (S_nil (R_yes (by kernel_rfl) (R_seq (R_region (?_))))))))))))
                              have HR := hr_neg HR c35
                              refine S_val (.int .i64 5) (by kernel_rfl) (S_nil (?_))
                              refine R_ret hM28 rfl (.cons (.tmp _ (.int .i64 5) (by kernel_rfl)) .nil) rfl ?_
                              exact ⟨congrArg Ending.returned HR, hM28.below⟩
                            · refine S_val (.bool false) (by kernel_rfl) (S_val (.pointer (some ⟨g1, 10, none⟩)) (by kernel_rfl) (S_load 1 10 (.agg #[.int .i64 l.2.2.2.2.1, .int .i64 l.2.2.2.2.2.1, .int .i64 l.2.2.2.2.2.2]) hM28 (by kernel_rfl) (S_load 0 0 (.agg #[.int .i64 0, .int .i64 0, .int .i64 0]) hM28 (by kernel_rfl) (?_))))
                              have HR := hr_pos HR c35
                              refine S_decn ((l.2.2.2.2 : Int × Int × Int) = (0, 0, 0)) (eqv_umbra_api_Pointn (x := l.2.2.2.2) (y := (0, 0, 0)) (by kernel_rfl) (by kernel_rfl) (by kernel_rfl)) (fun c36 => ?_) (fun c36 => ?_)
                              · refine S_val (.bool true) (by kernel_rfl) (S_val (.bool true) (by kernel_rfl) (S_val (.bool true) (by kernel_rfl) (S_nil (R_yes (by kernel_rfl) (R_seq (R_region (S_val (.int .i64 5) (by kernel_rfl) (S_nil (?_)))))))))
                                have HR := hr_neg HR c36
                                refine R_ret hM28 rfl (.cons (.tmp _ (.int .i64 5) (by kernel_rfl)) .nil) rfl ?_
                                exact ⟨congrArg Ending.returned HR, hM28.below⟩
                              · refine S_val (.bool false) (by kernel_rfl) (S_val (.bool false) (by kernel_rfl) (S_val (.bool false) (by kernel_rfl) (S_nil (R_no (by kernel_rfl) (R_skip (R_seq (R_region (S_val (.int .i64 0) (by kernel_rfl) (S_nil (?_))))))))))
                                have HR := hr_pos HR c36
                                refine R_ret hM28 rfl (.cons (.tmp _ (.int .i64 0) (by kernel_rfl)) .nil) rfl ?_
                                exact ⟨congrArg Ending.returned HR, hM28.below⟩
                          · refine S_val (.bool false) (by kernel_rfl) (S_skip (by kernel_rfl) (S_skip (by kernel_rfl) (S_skip (by kernel_rfl) (S_skip (by kernel_rfl) (S_skip (by kernel_rfl) (S_skip (by kernel_rfl) (S_skip (by kernel_rfl) (S_skip (by kernel_rfl) (S_skip (by kernel_rfl) (S_skip (by kernel_rfl) (S_val (.bool false) (by kernel_rfl) (?_))))))))))))
                            have HR := hr_pos HR c34
                            refine S_val (.bool false) (by kernel_rfl) (S_nil (R_no (by kernel_rfl) (R_skip (R_seq (R_region (S_val (.int .i64 0) (by kernel_rfl) (S_nil (?_))))))))
                            refine R_ret hM28 rfl (.cons (.tmp _ (.int .i64 0) (by kernel_rfl)) .nil) rfl ?_
                            exact ⟨congrArg Ending.returned HR, hM28.below⟩
                      · refine S_val (.bool true) (by kernel_rfl) (S_nil (R_yes (by kernel_rfl) (R_seq (R_region (S_val (.int .i64 8) (by kernel_rfl) (S_nil (?_)))))))
                        have HR := hr_pos HR rfl
                        refine R_ret hM23 rfl (.cons (.tmp _ (.int .i64 8) (by kernel_rfl)) .nil) rfl ?_
                        exact ⟨congrArg Ending.returned HR, hM23.below⟩
                    · refine S_val (.bool true) (by kernel_rfl) (S_val (.bool true) (by kernel_rfl) (S_skip (by kernel_rfl) (S_skip (by kernel_rfl) (S_skip (by kernel_rfl) (S_val (.bool true) (by kernel_rfl) (S_nil (R_yes (by kernel_rfl) (R_seq (R_region (S_val (.int .i64 8) (by kernel_rfl) (S_nil (?_))))))))))))
                      have HR := hr_pos HR rfl
                      refine R_ret hM19 rfl (.cons (.tmp _ (.int .i64 8) (by kernel_rfl)) .nil) rfl ?_
                      exact ⟨congrArg Ending.returned HR, hM19.below⟩
                  · refine S_val (.bool true) (by kernel_rfl) (S_skip (by kernel_rfl) (S_skip (by kernel_rfl) (S_skip (by kernel_rfl) (S_val (.bool true) (by kernel_rfl) (S_val (.bool true) (by kernel_rfl) (S_skip (by kernel_rfl) (S_skip (by kernel_rfl) (S_skip (by kernel_rfl) (S_val (.bool true) (by kernel_rfl) (S_nil (R_yes (by kernel_rfl) (?_))))))))))))
                    have HR := hr_pos HR rfl
                    refine R_seq (R_region (S_val (.int .i64 8) (by kernel_rfl) (S_nil (?_))))
                    refine R_ret hM15 rfl (.cons (.tmp _ (.int .i64 8) (by kernel_rfl)) .nil) rfl ?_
                    exact ⟨congrArg Ending.returned HR, hM15.below⟩

def P_umbraref15_Light (r : Int) : Prop := InI r
theorem i_umbraref15_Light (l : Int × (Int × Int × Int) × (Int × Int × Int) × (Int × Int × Int) × (Int × Int × Int)) (h_l : (InI l.1 ∧ InV l.2.1 ∧ InV l.2.2.1 ∧ InV l.2.2.2.1 ∧ InV l.2.2.2.2)) : P_umbraref15_Light (s_umbraref15_Light l) := by
  unfold s_umbraref15_Light
  exact (ite_P (fun c4 => (show InI 5 from (show InI 5 from by unfold InI; omega))) (fun c4 => (ite_P (fun c5 => (show InI 5 from (show InI 5 from by unfold InI; omega))) (fun c5 => (ite_P (fun c6 => (show InI 5 from (show InI 5 from by unfold InI; omega))) (fun c6 => (ite_P (fun c7 => (show InI 5 from (show InI 5 from by unfold InI; omega))) (fun c7 => (ite_P (fun c8 => (show InI 5 from (show InI 5 from by unfold InI; omega))) (fun c8 => (ite_P (fun c9 => (show InI 5 from (show InI 5 from by unfold InI; omega))) (fun c9 => (ite_P (fun c10 => (show InI 5 from (show InI 5 from by unfold InI; omega))) (fun c10 => (ite_P (fun c11 => (show InI 5 from (show InI 5 from by unfold InI; omega))) (fun c11 => (lt_P fun r12 h13 => (ite_P (fun c39 => (show InI 8 from (show InI 8 from by unfold InI; omega))) (fun c39 => (lt_P fun r16 h17 => (ite_P (fun c38 => (show InI 8 from (show InI 8 from by unfold InI; omega))) (fun c38 => (lt_P fun r20 h21 => (ite_P (fun c37 => (show InI 8 from (show InI 8 from by unfold InI; omega))) (fun c37 => (ite_P (fun c29 => (ite_P (fun c30 => (ite_P (fun c31 => (show InI 0 from (show InI 0 from by unfold InI; omega))) (fun c31 => (ite_P (fun c32 => (ite_P (fun c33 => (show InI 0 from (show InI 0 from by unfold InI; omega))) (fun c33 => (show InI 5 from (show InI 5 from by unfold InI; omega))))) (fun c32 => (show InI 5 from (show InI 5 from by unfold InI; omega))))))) (fun c30 => (show InI 5 from (show InI 5 from by unfold InI; omega))))) (fun c29 => (ite_P (fun c34 => (show InI 0 from (show InI 0 from by unfold InI; omega))) (fun c34 => (ite_P (fun c35 => (ite_P (fun c36 => (show InI 0 from (show InI 0 from by unfold InI; omega))) (fun c36 => (show InI 5 from (show InI 5 from by unfold InI; omega))))) (fun c35 => (show InI 5 from (show InI 5 from by unfold InI; omega)))))))))))))))))))))))))))))))))

def e_texel_Color_1 (r : Int) : Value := .int .i64 r
def s_texel_Color_1 (most : Int) (n : Int) : Int :=
  lt (fof n) fun r4 =>
  lt (fof most) fun r6 =>
  lt (fdiv r4 r6) fun r8 =>
  r8
set_option maxRecDepth 100000 in
set_option maxHeartbeats 4000000 in
theorem w_texel_Color_1 (most : Int) (n : Int) (h_most : InI most) (h_n : InI n) (B0 : Nat) (T0 : TypeId) (fr0 : Nat × Nat) (w : World) (hB0 : Has B0 (.cells #[.int .i64 most] T0 fr0) w) : Calls Try.prog 123 #[.int .i64 n, .pointer (some ⟨B0, 0, none⟩)] w (Ret (e_texel_Color_1 (s_texel_Color_1 most n)) w) := by
  obtain ⟨R, HR⟩ : ∃ R, e_texel_Color_1 (s_texel_Color_1 most n) = R := ⟨_, rfl⟩
  rw [HR]
  unfold s_texel_Color_1 at HR
  have hM0 := St.start1 hB0
  refine calls_run Try.func123 rfl ?_
  refine R_seq (R_region (S_val (.int .i64 0) (by kernel_rfl) (S_nil (R_seq (R_drawF 6 (by kernel_rfl) (fun F1 U2 hL3 => F_val (.int .i64 n) (fun _ => by kernel_rfl) (F_call (fof n) (fun r : Int => .int .i64 r) hM0 hL3 (fun w' hM' => c_fix_Of n h_n w') (by kernel_rfl) (fun _ => by kernel_rfl) (fun r4 h5 => F_load 0 0 (.int .i64 most) hM0 (by kernel_rfl) (F_call (fof most) (fun r : Int => .int .i64 r) hM0 hL3 (fun w' hM' => c_fix_Of most h_most w') (by kernel_rfl) (fun _ => by kernel_rfl) (fun r6 h7 => F_call (fdiv r4 r6) (fun r : Int => .int .i64 r) hM0 hL3 (fun w' hM' => c_fix_Div r4 r6 ((tr (P := fun r : Int => InI r) h5 (fof_I n)).out) ((tr (P := fun r : Int => InI r) h7 (fof_I most)).out) w') (by kernel_rfl) (fun _ => by kernel_rfl) (fun r8 h9 => F_val (.int .i64 r8) (fun _ => by kernel_rfl) (?_))))))))))))
  have HR := hr_lt HR h5
  have HR := hr_lt HR h7
  have HR := hr_lt HR h9
  refine F_nil hM0 hL3 (fun w10 hM11 => S_nil (?_))
  refine R_ret hM11 rfl (.cons (.tmp _ (.int .i64 r8) (by kernel_rfl)) .nil) rfl ?_
  exact ⟨congrArg Ending.returned HR, hM11.below⟩

def P_texel_Color_1 (r : Int) : Prop := InI r
theorem i_texel_Color_1 (most : Int) (n : Int) (h_most : InI most) (h_n : InI n) : P_texel_Color_1 (s_texel_Color_1 most n) := by
  unfold s_texel_Color_1
  exact (lt_P fun r4 h5 => (lt_P fun r6 h7 => (lt_P fun r8 h9 => (show InI r8 from (tr (P := fun r : Int => InI r) h9 (fdiv_I r4 r6)).out))))

def e_texel_Color (r : Int × Int × Int) : Value := .agg #[.int .i64 r.1, .int .i64 r.2.1, .int .i64 r.2.2]
def s_texel_Color (c : Int × Int × Int) (most : Int) : Int × Int × Int :=
  lt (s_texel_Color_1 most c.1) fun r13 =>
  lt (s_texel_Color_1 most c.2.1) fun r15 =>
  lt (s_texel_Color_1 most c.2.2) fun r17 =>
  (r13, r15, r17)
set_option maxRecDepth 100000 in
set_option maxHeartbeats 4000000 in
theorem w_texel_Color (c : Int × Int × Int) (most : Int) (h_c : InV c) (h_most : InI most) (w : World) : Calls Try.prog 110 #[.agg #[.int .i64 c.1, .int .i64 c.2.1, .int .i64 c.2.2], .int .i64 most] w (Ret (e_texel_Color (s_texel_Color c most)) w) := by
  obtain ⟨R, HR⟩ : ∃ R, e_texel_Color (s_texel_Color c most) = R := ⟨_, rfl⟩
  rw [HR]
  unfold s_texel_Color at HR
  have hM0 := St.start w
  refine calls_run Try.func110 rfl ?_
  refine R_seq (R_region (S_fresh none #[.int .i64 c.1, .int .i64 c.2.1, .int .i64 c.2.2] 46 hM0 (by kernel_rfl) (fun g1 w2 hM3 => S_fresh none #[.int .i64 most] 3 hM3 (by kernel_rfl) (fun g4 w5 hM6 => S_fresh none #[.int .i64 0, .int .i64 0, .int .i64 0] 26 hM6 (by kernel_rfl) (fun g7 w8 hM9 => S_nil (R_seq (R_region (S_val (.func (.func 123) #[] #[.pointer (some ⟨g4, 0, none⟩)]) (by kernel_rfl) (S_val (.func (.func 123) #[] #[.pointer (some ⟨g4, 0, none⟩)]) (by kernel_rfl) (S_nil (R_seq (?_))))))))))))
  refine R_drawF 13 (by kernel_rfl) (fun F10 U11 hL12 => F_val (.func (.func 123) #[] #[.pointer (some ⟨g4, 0, none⟩)]) (fun _ => by kernel_rfl) (F_val (.pointer (some ⟨g1, 0, none⟩)) (fun _ => by kernel_rfl) (F_load 2 0 (.int .i64 c.1) hM9 (by kernel_rfl) (F_call (s_texel_Color_1 most c.1) (fun r : Int => .int .i64 r) hM9 hL12 (fun w' hM' => w_texel_Color_1 most c.1 h_most h_c.1 g4 _ _ w' (hM'.at 1 rfl)) (by kernel_rfl) (fun _ => by kernel_rfl) (fun r13 h14 => F_val (.func (.func 123) #[] #[.pointer (some ⟨g4, 0, none⟩)]) (fun _ => by kernel_rfl) (F_val (.pointer (some ⟨g1, 1, none⟩)) (fun _ => by kernel_rfl) (F_load 2 1 (.int .i64 c.2.1) hM9 (by kernel_rfl) (F_call (s_texel_Color_1 most c.2.1) (fun r : Int => .int .i64 r) hM9 hL12 (fun w' hM' => w_texel_Color_1 most c.2.1 h_most h_c.2.1 g4 _ _ w' (hM'.at 1 rfl)) (by kernel_rfl) (fun _ => by kernel_rfl) (fun r15 h16 => F_val (.func (.func 123) #[] #[.pointer (some ⟨g4, 0, none⟩)]) (fun _ => by kernel_rfl) (F_val (.pointer (some ⟨g1, 2, none⟩)) (fun _ => by kernel_rfl) (F_load 2 2 (.int .i64 c.2.2) hM9 (by kernel_rfl) (?_))))))))))))
  have HR := hr_lt HR h14
  have HR := hr_lt HR h16
  refine F_call (s_texel_Color_1 most c.2.2) (fun r : Int => .int .i64 r) hM9 hL12 (fun w' hM' => w_texel_Color_1 most c.2.2 h_most h_c.2.2 g4 _ _ w' (hM'.at 1 rfl)) (by kernel_rfl) (fun _ => by kernel_rfl) (fun r17 h18 => F_val (.agg #[.int .i64 r13, .int .i64 r15, .int .i64 r17]) (fun _ => by kernel_rfl) (F_nil hM9 hL12 (fun w19 hM20 => S_store 0 0 #[.int .i64 r13, .int .i64 r15, .int .i64 r17] hM20 (by kernel_rfl) (fun w21 hM22 => S_nil (?_)))))
  have HR := hr_lt HR h18
  refine R_ret hM22 rfl (.cons (.cell _ _ 0 0 (.agg #[.int .i64 r13, .int .i64 r15, .int .i64 r17]) (by kernel_rfl)) .nil) rfl ?_
  exact ⟨congrArg Ending.returned HR, hM22.below⟩

def P_texel_Color (r : Int × Int × Int) : Prop := InV r
theorem i_texel_Color (c : Int × Int × Int) (most : Int) (h_c : InV c) (h_most : InI most) : P_texel_Color (s_texel_Color c most) := by
  unfold s_texel_Color
  exact (lt_P fun r13 h14 => (lt_P fun r15 h16 => (lt_P fun r17 h18 => (show InV (r13, r15, r17) from ⟨(tr (P := fun r : Int => InI r) h14 (i_texel_Color_1 most c.1 h_most h_c.1)).out, (tr (P := fun r : Int => InI r) h16 (i_texel_Color_1 most c.2.1 h_most h_c.2.1)).out, (tr (P := fun r : Int => InI r) h18 (i_texel_Color_1 most c.2.2 h_most h_c.2.2)).out⟩))))

def e_umbraref25_Color (r : Int × Int × Int) : Value := .agg #[.int .i64 r.1, .int .i64 r.2.1, .int .i64 r.2.2]
def s_umbraref25_Color (c : Int × Int × Int) (most : Int) : Int × Int × Int :=
  lt (fof most) fun r7 =>
  lt (fof c.1) fun r14 =>
  lt (fdiv r14 r7) fun r16 =>
  lt (fof c.2.1) fun r18 =>
  lt (fdiv r18 r7) fun r20 =>
  lt (fof c.2.2) fun r22 =>
  lt (fdiv r22 r7) fun r24 =>
  (r16, r20, r24)
set_option maxRecDepth 100000 in
set_option maxHeartbeats 4000000 in
theorem w_umbraref25_Color (c : Int × Int × Int) (most : Int) (h_c : InV c) (h_most : InI most) (w : World) : Calls Try.prog 111 #[.agg #[.int .i64 c.1, .int .i64 c.2.1, .int .i64 c.2.2], .int .i64 most] w (Ret (e_umbraref25_Color (s_umbraref25_Color c most)) w) := by
  obtain ⟨R, HR⟩ : ∃ R, e_umbraref25_Color (s_umbraref25_Color c most) = R := ⟨_, rfl⟩
  rw [HR]
  unfold s_umbraref25_Color at HR
  have hM0 := St.start w
  refine calls_run Try.func111 rfl ?_
  refine R_seq (R_region (S_fresh none #[.int .i64 c.1, .int .i64 c.2.1, .int .i64 c.2.2] 46 hM0 (by kernel_rfl) (fun g1 w2 hM3 => S_fresh none #[.int .i64 0, .int .i64 0, .int .i64 0] 26 hM3 (by kernel_rfl) (fun g4 w5 hM6 => S_nil (R_seq (R_region (S_val (.int .i64 most) (by kernel_rfl) (S_call (fof most) (fun r : Int => .int .i64 r) hM6 (c_umbraref02_Of most h_most w5) (by kernel_rfl) (fun r7 h8 w9 hM10 => S_val (.int .i64 r7) (by kernel_rfl) (S_nil (R_seq (?_))))))))))))
  have HR := hr_lt HR h8
  refine R_drawF 16 (by kernel_rfl) (fun F11 U12 hL13 => F_val (.pointer (some ⟨g1, 0, none⟩)) (fun _ => by kernel_rfl) (F_load 1 0 (.int .i64 c.1) hM10 (by kernel_rfl) (F_call (fof c.1) (fun r : Int => .int .i64 r) hM10 hL13 (fun w' hM' => c_umbraref02_Of c.1 h_c.1 w') (by kernel_rfl) (fun _ => by kernel_rfl) (fun r14 h15 => F_val (.int .i64 r7) (fun _ => by kernel_rfl) (F_call (fdiv r14 r7) (fun r : Int => .int .i64 r) hM10 hL13 (fun w' hM' => c_umbraref02_Div r14 r7 ((tr (P := fun r : Int => InI r) h15 (fof_I c.1)).out) ((tr (P := fun r : Int => InI r) h8 (fof_I most)).out) w') (by kernel_rfl) (fun _ => by kernel_rfl) (fun r16 h17 => F_val (.pointer (some ⟨g1, 1, none⟩)) (fun _ => by kernel_rfl) (F_load 1 1 (.int .i64 c.2.1) hM10 (by kernel_rfl) (F_call (fof c.2.1) (fun r : Int => .int .i64 r) hM10 hL13 (fun w' hM' => c_umbraref02_Of c.2.1 h_c.2.1 w') (by kernel_rfl) (fun _ => by kernel_rfl) (fun r18 h19 => F_val (.int .i64 r7) (fun _ => by kernel_rfl) (F_call (fdiv r18 r7) (fun r : Int => .int .i64 r) hM10 hL13 (fun w' hM' => c_umbraref02_Div r18 r7 ((tr (P := fun r : Int => InI r) h19 (fof_I c.2.1)).out) ((tr (P := fun r : Int => InI r) h8 (fof_I most)).out) w') (by kernel_rfl) (fun _ => by kernel_rfl) (fun r20 h21 => F_val (.pointer (some ⟨g1, 2, none⟩)) (fun _ => by kernel_rfl) (?_))))))))))))
  have HR := hr_lt HR h15
  have HR := hr_lt HR h17
  have HR := hr_lt HR h19
  have HR := hr_lt HR h21
  refine F_load 1 2 (.int .i64 c.2.2) hM10 (by kernel_rfl) (F_call (fof c.2.2) (fun r : Int => .int .i64 r) hM10 hL13 (fun w' hM' => c_umbraref02_Of c.2.2 h_c.2.2 w') (by kernel_rfl) (fun _ => by kernel_rfl) (fun r22 h23 => F_val (.int .i64 r7) (fun _ => by kernel_rfl) (F_call (fdiv r22 r7) (fun r : Int => .int .i64 r) hM10 hL13 (fun w' hM' => c_umbraref02_Div r22 r7 ((tr (P := fun r : Int => InI r) h23 (fof_I c.2.2)).out) ((tr (P := fun r : Int => InI r) h8 (fof_I most)).out) w') (by kernel_rfl) (fun _ => by kernel_rfl) (fun r24 h25 => F_val (.agg #[.int .i64 r16, .int .i64 r20, .int .i64 r24]) (fun _ => by kernel_rfl) (F_nil hM10 hL13 (fun w26 hM27 => S_store 0 0 #[.int .i64 r16, .int .i64 r20, .int .i64 r24] hM27 (by kernel_rfl) (fun w28 hM29 => S_nil (?_))))))))
  have HR := hr_lt HR h23
  have HR := hr_lt HR h25
  refine R_ret hM29 rfl (.cons (.cell _ _ 0 0 (.agg #[.int .i64 r16, .int .i64 r20, .int .i64 r24]) (by kernel_rfl)) .nil) rfl ?_
  exact ⟨congrArg Ending.returned HR, hM29.below⟩

def P_umbraref25_Color (r : Int × Int × Int) : Prop := InV r
theorem i_umbraref25_Color (c : Int × Int × Int) (most : Int) (h_c : InV c) (h_most : InI most) : P_umbraref25_Color (s_umbraref25_Color c most) := by
  unfold s_umbraref25_Color
  exact (lt_P fun r7 h8 => (lt_P fun r14 h15 => (lt_P fun r16 h17 => (lt_P fun r18 h19 => (lt_P fun r20 h21 => (lt_P fun r22 h23 => (lt_P fun r24 h25 => (show InV (r16, r20, r24) from ⟨(tr (P := fun r : Int => InI r) h17 (fdiv_I r14 r7)).out, (tr (P := fun r : Int => InI r) h21 (fdiv_I r18 r7)).out, (tr (P := fun r : Int => InI r) h25 (fdiv_I r22 r7)).out⟩))))))))

def e_lamp_Bright (r : Int × Int × Int) : Value := .agg #[.int .i64 r.1, .int .i64 r.2.1, .int .i64 r.2.2]
def s_lamp_Bright (l : Int × (Int × Int × Int) × (Int × Int × Int) × (Int × Int × Int) × (Int × Int × Int)) : Int × Int × Int :=
  lt (s_texel_Color l.2.1 65536) fun r7 =>
  r7
set_option maxRecDepth 100000 in
set_option maxHeartbeats 4000000 in
theorem w_lamp_Bright (l : Int × (Int × Int × Int) × (Int × Int × Int) × (Int × Int × Int) × (Int × Int × Int)) (h_l : (InI l.1 ∧ InV l.2.1 ∧ InV l.2.2.1 ∧ InV l.2.2.2.1 ∧ InV l.2.2.2.2)) (w : World) : Calls Try.prog 78 #[.agg #[.int .i64 l.1, .int .i64 l.2.1.1, .int .i64 l.2.1.2.1, .int .i64 l.2.1.2.2, .int .i64 l.2.2.1.1, .int .i64 l.2.2.1.2.1, .int .i64 l.2.2.1.2.2, .int .i64 l.2.2.2.1.1, .int .i64 l.2.2.2.1.2.1, .int .i64 l.2.2.2.1.2.2, .int .i64 l.2.2.2.2.1, .int .i64 l.2.2.2.2.2.1, .int .i64 l.2.2.2.2.2.2]] w (Ret (e_lamp_Bright (s_lamp_Bright l)) w) := by
  obtain ⟨R, HR⟩ : ∃ R, e_lamp_Bright (s_lamp_Bright l) = R := ⟨_, rfl⟩
  rw [HR]
  unfold s_lamp_Bright at HR
  have hM0 := St.start w
  refine calls_run Try.func78 rfl ?_
  refine R_seq (R_region (S_fresh none #[.int .i64 l.1, .int .i64 l.2.1.1, .int .i64 l.2.1.2.1, .int .i64 l.2.1.2.2, .int .i64 l.2.2.1.1, .int .i64 l.2.2.1.2.1, .int .i64 l.2.2.1.2.2, .int .i64 l.2.2.2.1.1, .int .i64 l.2.2.2.1.2.1, .int .i64 l.2.2.2.1.2.2, .int .i64 l.2.2.2.2.1, .int .i64 l.2.2.2.2.2.1, .int .i64 l.2.2.2.2.2.2] 58 hM0 (by kernel_rfl) (fun g1 w2 hM3 => S_fresh none #[.int .i64 0, .int .i64 0, .int .i64 0] 26 hM3 (by kernel_rfl) (fun g4 w5 hM6 => S_nil (R_seq (R_region (S_val (.pointer (some ⟨g1, 1, none⟩)) (by kernel_rfl) (S_load 1 1 (.agg #[.int .i64 l.2.1.1, .int .i64 l.2.1.2.1, .int .i64 l.2.1.2.2]) hM6 (by kernel_rfl) (S_call (s_texel_Color l.2.1 65536) (fun r : Int × Int × Int => .agg #[.int .i64 r.1, .int .i64 r.2.1, .int .i64 r.2.2]) hM6 (w_texel_Color l.2.1 65536 h_l.2.1 (show InI 65536 from by unfold InI; omega) w5) (by kernel_rfl) (fun r7 h8 w9 hM10 => S_store 0 0 #[.int .i64 r7.1, .int .i64 r7.2.1, .int .i64 r7.2.2] hM10 (by kernel_rfl) (fun w11 hM12 => S_nil (?_))))))))))))
  have HR := hr_lt HR h8
  refine R_ret hM12 rfl (.cons (.cell _ _ 0 0 (.agg #[.int .i64 r7.1, .int .i64 r7.2.1, .int .i64 r7.2.2]) (by kernel_rfl)) .nil) rfl ?_
  exact ⟨congrArg Ending.returned HR, hM12.below⟩

def P_lamp_Bright (r : Int × Int × Int) : Prop := InV r
theorem i_lamp_Bright (l : Int × (Int × Int × Int) × (Int × Int × Int) × (Int × Int × Int) × (Int × Int × Int)) (h_l : (InI l.1 ∧ InV l.2.1 ∧ InV l.2.2.1 ∧ InV l.2.2.2.1 ∧ InV l.2.2.2.2)) : P_lamp_Bright (s_lamp_Bright l) := by
  unfold s_lamp_Bright
  exact (lt_P fun r7 h8 => (show InV r7 from (tr (P := fun r : Int × Int × Int => InV r) h8 (i_texel_Color l.2.1 65536 h_l.2.1 (show InI 65536 from by unfold InI; omega))).out))

def e_umbraref27_Bright (r : Int × Int × Int) : Value := .agg #[.int .i64 r.1, .int .i64 r.2.1, .int .i64 r.2.2]
def s_umbraref27_Bright (l : Int × (Int × Int × Int) × (Int × Int × Int) × (Int × Int × Int) × (Int × Int × Int)) : Int × Int × Int :=
  lt (s_umbraref25_Color l.2.1 65536) fun r7 =>
  r7
set_option maxRecDepth 100000 in
set_option maxHeartbeats 4000000 in
theorem w_umbraref27_Bright (l : Int × (Int × Int × Int) × (Int × Int × Int) × (Int × Int × Int) × (Int × Int × Int)) (h_l : (InI l.1 ∧ InV l.2.1 ∧ InV l.2.2.1 ∧ InV l.2.2.2.1 ∧ InV l.2.2.2.2)) (w : World) : Calls Try.prog 81 #[.agg #[.int .i64 l.1, .int .i64 l.2.1.1, .int .i64 l.2.1.2.1, .int .i64 l.2.1.2.2, .int .i64 l.2.2.1.1, .int .i64 l.2.2.1.2.1, .int .i64 l.2.2.1.2.2, .int .i64 l.2.2.2.1.1, .int .i64 l.2.2.2.1.2.1, .int .i64 l.2.2.2.1.2.2, .int .i64 l.2.2.2.2.1, .int .i64 l.2.2.2.2.2.1, .int .i64 l.2.2.2.2.2.2]] w (Ret (e_umbraref27_Bright (s_umbraref27_Bright l)) w) := by
  obtain ⟨R, HR⟩ : ∃ R, e_umbraref27_Bright (s_umbraref27_Bright l) = R := ⟨_, rfl⟩
  rw [HR]
  unfold s_umbraref27_Bright at HR
  have hM0 := St.start w
  refine calls_run Try.func81 rfl ?_
  refine R_seq (R_region (S_fresh none #[.int .i64 l.1, .int .i64 l.2.1.1, .int .i64 l.2.1.2.1, .int .i64 l.2.1.2.2, .int .i64 l.2.2.1.1, .int .i64 l.2.2.1.2.1, .int .i64 l.2.2.1.2.2, .int .i64 l.2.2.2.1.1, .int .i64 l.2.2.2.1.2.1, .int .i64 l.2.2.2.1.2.2, .int .i64 l.2.2.2.2.1, .int .i64 l.2.2.2.2.2.1, .int .i64 l.2.2.2.2.2.2] 58 hM0 (by kernel_rfl) (fun g1 w2 hM3 => S_fresh none #[.int .i64 0, .int .i64 0, .int .i64 0] 26 hM3 (by kernel_rfl) (fun g4 w5 hM6 => S_nil (R_seq (R_region (S_val (.pointer (some ⟨g1, 1, none⟩)) (by kernel_rfl) (S_load 1 1 (.agg #[.int .i64 l.2.1.1, .int .i64 l.2.1.2.1, .int .i64 l.2.1.2.2]) hM6 (by kernel_rfl) (S_call (s_umbraref25_Color l.2.1 65536) (fun r : Int × Int × Int => .agg #[.int .i64 r.1, .int .i64 r.2.1, .int .i64 r.2.2]) hM6 (w_umbraref25_Color l.2.1 65536 h_l.2.1 (show InI 65536 from by unfold InI; omega) w5) (by kernel_rfl) (fun r7 h8 w9 hM10 => S_store 0 0 #[.int .i64 r7.1, .int .i64 r7.2.1, .int .i64 r7.2.2] hM10 (by kernel_rfl) (fun w11 hM12 => S_nil (?_))))))))))))
  have HR := hr_lt HR h8
  refine R_ret hM12 rfl (.cons (.cell _ _ 0 0 (.agg #[.int .i64 r7.1, .int .i64 r7.2.1, .int .i64 r7.2.2]) (by kernel_rfl)) .nil) rfl ?_
  exact ⟨congrArg Ending.returned HR, hM12.below⟩

def P_umbraref27_Bright (r : Int × Int × Int) : Prop := InV r
theorem i_umbraref27_Bright (l : Int × (Int × Int × Int) × (Int × Int × Int) × (Int × Int × Int) × (Int × Int × Int)) (h_l : (InI l.1 ∧ InV l.2.1 ∧ InV l.2.2.1 ∧ InV l.2.2.2.1 ∧ InV l.2.2.2.2)) : P_umbraref27_Bright (s_umbraref27_Bright l) := by
  unfold s_umbraref27_Bright
  exact (lt_P fun r7 h8 => (show InV r7 from (tr (P := fun r : Int × Int × Int => InV r) h8 (i_umbraref25_Color l.2.1 65536 h_l.2.1 (show InI 65536 from by unfold InI; omega))).out))

def e_lamp_Point_1 (r : Int) : Value := .int .i64 r
def s_lamp_Point_1 (draw : Int × Int) (at0_ : Int) (u : Int) (v : Int) : Int :=
  lt (IntKind.i64.wrap draw.1) fun x4 =>
  lt (mdN u x4 4294967296) fun r6 =>
  lt (IntKind.i64.wrap (at0_ + r6)) fun x8 =>
  lt (IntKind.i64.wrap draw.2) fun x10 =>
  lt (mdN v x10 4294967296) fun r12 =>
  lt (IntKind.i64.wrap (x8 + r12)) fun x14 =>
  x14
set_option maxRecDepth 100000 in
set_option maxHeartbeats 4000000 in
theorem w_lamp_Point_1 (draw : Int × Int) (at0_ : Int) (u : Int) (v : Int) (h_draw : (InU32 draw.1 ∧ InU32 draw.2)) (h_at0_ : InI at0_) (h_u : InI u) (h_v : InI v) (B0 : Nat) (T0 : TypeId) (fr0 : Nat × Nat) (w : World) (hB0 : Has B0 (.cells #[.int .u32 draw.1, .int .u32 draw.2] T0 fr0) w) : Calls Try.prog 91 #[.int .i64 at0_, .int .i64 u, .int .i64 v, .pointer (some ⟨B0, 0, none⟩)] w (Ret (e_lamp_Point_1 (s_lamp_Point_1 draw at0_ u v)) w) := by
  obtain ⟨R, HR⟩ : ∃ R, e_lamp_Point_1 (s_lamp_Point_1 draw at0_ u v) = R := ⟨_, rfl⟩
  rw [HR]
  unfold s_lamp_Point_1 at HR
  have hM0 := St.start1 hB0
  refine calls_run Try.func91 rfl ?_
  refine R_seq (R_region (S_val (.int .i64 0) (by kernel_rfl) (S_nil (R_seq (R_drawF 14 (by kernel_rfl) (fun F1 U2 hL3 => F_val (.int .i64 at0_) (fun _ => by kernel_rfl) (F_val (.int .i64 u) (fun _ => by kernel_rfl) (F_val (.pointer (some ⟨B0, 0, none⟩)) (fun _ => by kernel_rfl) (F_load 0 0 (.int .u32 draw.1) hM0 (by kernel_rfl) (F_int (IntKind.i64.wrap draw.1) .i64 (fun _ => by kernel_rfl) (fun x4 h5 => F_call (mdN u x4 4294967296) (fun r : Int => .int .i64 r) hM0 hL3 (fun w' hM' => c_wide_MulDiv u x4 4294967296 h_u (wr_i64 h5) (show InI 4294967296 from by unfold InI; omega) w') (by kernel_rfl) (fun _ => by kernel_rfl) (fun r6 h7 => ?_))))))))))))
  have HR := hr_lt HR h5
  have HR := hr_lt HR h7
  refine F_int (IntKind.i64.wrap (at0_ + r6)) .i64 (fun _ => by kernel_rfl) (fun x8 h9 => F_val (.int .i64 v) (fun _ => by kernel_rfl) (F_val (.pointer (some ⟨B0, 1, none⟩)) (fun _ => by kernel_rfl) (F_load 0 1 (.int .u32 draw.2) hM0 (by kernel_rfl) (F_int (IntKind.i64.wrap draw.2) .i64 (fun _ => by kernel_rfl) (fun x10 h11 => F_call (mdN v x10 4294967296) (fun r : Int => .int .i64 r) hM0 hL3 (fun w' hM' => c_wide_MulDiv v x10 4294967296 h_v (wr_i64 h11) (show InI 4294967296 from by unfold InI; omega) w') (by kernel_rfl) (fun _ => by kernel_rfl) (fun r12 h13 => F_int (IntKind.i64.wrap (x8 + r12)) .i64 (fun _ => by kernel_rfl) (fun x14 h15 => F_val (.int .i64 x14) (fun _ => by kernel_rfl) (F_nil hM0 hL3 (fun w16 hM17 => S_nil (?_))))))))))
  have HR := hr_lt HR h9
  have HR := hr_lt HR h11
  have HR := hr_lt HR h13
  have HR := hr_lt HR h15
  refine R_ret hM17 rfl (.cons (.tmp _ (.int .i64 x14) (by kernel_rfl)) .nil) rfl ?_
  exact ⟨congrArg Ending.returned HR, hM17.below⟩

def P_lamp_Point_1 (r : Int) : Prop := InI r
theorem i_lamp_Point_1 (draw : Int × Int) (at0_ : Int) (u : Int) (v : Int) (h_draw : (InU32 draw.1 ∧ InU32 draw.2)) (h_at0_ : InI at0_) (h_u : InI u) (h_v : InI v) : P_lamp_Point_1 (s_lamp_Point_1 draw at0_ u v) := by
  unfold s_lamp_Point_1
  exact (lt_P fun x4 h5 => (lt_P fun r6 h7 => (lt_P fun x8 h9 => (lt_P fun x10 h11 => (lt_P fun r12 h13 => (lt_P fun x14 h15 => (show InI x14 from (wr_i64 h15))))))))

def e_lamp_Point (r : Int × Int × Int) : Value := .agg #[.int .i64 r.1, .int .i64 r.2.1, .int .i64 r.2.2]
def s_lamp_Point (l : Int × (Int × Int × Int) × (Int × Int × Int) × (Int × Int × Int) × (Int × Int × Int)) (draw : Int × Int) : Int × Int × Int :=
  if l.1 = 1 then
    lt (s_lamp_Point_1 draw l.2.2.1.1 l.2.2.2.1.1 l.2.2.2.2.1) fun r16 =>
    lt (s_lamp_Point_1 draw l.2.2.1.2.1 l.2.2.2.1.2.1 l.2.2.2.2.2.1) fun r18 =>
    lt (s_lamp_Point_1 draw l.2.2.1.2.2 l.2.2.2.1.2.2 l.2.2.2.2.2.2) fun r20 =>
    (r16, r18, r20)
  else
    l.2.2.1
set_option maxRecDepth 100000 in
set_option maxHeartbeats 4000000 in
theorem w_lamp_Point (l : Int × (Int × Int × Int) × (Int × Int × Int) × (Int × Int × Int) × (Int × Int × Int)) (draw : Int × Int) (h_l : (InI l.1 ∧ InV l.2.1 ∧ InV l.2.2.1 ∧ InV l.2.2.2.1 ∧ InV l.2.2.2.2)) (h_draw : (InU32 draw.1 ∧ InU32 draw.2)) (w : World) : Calls Try.prog 38 #[.agg #[.int .i64 l.1, .int .i64 l.2.1.1, .int .i64 l.2.1.2.1, .int .i64 l.2.1.2.2, .int .i64 l.2.2.1.1, .int .i64 l.2.2.1.2.1, .int .i64 l.2.2.1.2.2, .int .i64 l.2.2.2.1.1, .int .i64 l.2.2.2.1.2.1, .int .i64 l.2.2.2.1.2.2, .int .i64 l.2.2.2.2.1, .int .i64 l.2.2.2.2.2.1, .int .i64 l.2.2.2.2.2.2], .agg #[.int .u32 draw.1, .int .u32 draw.2]] w (Ret (e_lamp_Point (s_lamp_Point l draw)) w) := by
  obtain ⟨R, HR⟩ : ∃ R, e_lamp_Point (s_lamp_Point l draw) = R := ⟨_, rfl⟩
  rw [HR]
  unfold s_lamp_Point at HR
  have hM0 := St.start w
  refine calls_run Try.func38 rfl ?_
  refine R_seq (R_region (S_fresh none #[.int .i64 l.1, .int .i64 l.2.1.1, .int .i64 l.2.1.2.1, .int .i64 l.2.1.2.2, .int .i64 l.2.2.1.1, .int .i64 l.2.2.1.2.1, .int .i64 l.2.2.1.2.2, .int .i64 l.2.2.2.1.1, .int .i64 l.2.2.2.1.2.1, .int .i64 l.2.2.2.1.2.2, .int .i64 l.2.2.2.2.1, .int .i64 l.2.2.2.2.2.1, .int .i64 l.2.2.2.2.2.2] 58 hM0 (by kernel_rfl) (fun g1 w2 hM3 => S_fresh none #[.int .u32 draw.1, .int .u32 draw.2] 49 hM3 (by kernel_rfl) (fun g4 w5 hM6 => S_fresh none #[.int .i64 0, .int .i64 0, .int .i64 0] 23 hM6 (by kernel_rfl) (fun g7 w8 hM9 => S_nil (R_seq (R_seq (R_region (S_val (.pointer (some ⟨g1, 0, none⟩)) (by kernel_rfl) (S_load 2 0 (.int .i64 l.1) hM9 (by kernel_rfl) (?_)))))))))))
  refine S_decn (l.1 = 1) (by kernel_rfl) (fun c10 => ?_) (fun c10 => ?_)
  · refine S_nil (R_yes (by kernel_rfl) (R_seq (R_region (S_val (.pointer (some ⟨g1, 4, none⟩)) (by kernel_rfl) (S_load 2 4 (.agg #[.int .i64 l.2.2.1.1, .int .i64 l.2.2.1.2.1, .int .i64 l.2.2.1.2.2]) hM9 (by kernel_rfl) (S_store 0 0 #[.int .i64 l.2.2.1.1, .int .i64 l.2.2.1.2.1, .int .i64 l.2.2.1.2.2] hM9 (by kernel_rfl) (fun w11 hM12 => S_nil (?_))))))))
    have HR := hr_neg HR c10
    refine R_ret hM12 rfl (.cons (.cell _ _ 0 0 (.agg #[.int .i64 l.2.2.1.1, .int .i64 l.2.2.1.2.1, .int .i64 l.2.2.1.2.2]) (by kernel_rfl)) .nil) rfl ?_
    exact ⟨congrArg Ending.returned HR, hM12.below⟩
  · refine S_nil (R_no (by kernel_rfl) (R_skip (R_seq (R_region (S_val (.func (.func 91) #[] #[.pointer (some ⟨g4, 0, none⟩)]) (by kernel_rfl) (S_val (.func (.func 91) #[] #[.pointer (some ⟨g4, 0, none⟩)]) (by kernel_rfl) (S_nil (R_seq (R_drawF 34 (by kernel_rfl) (fun F13 U14 hL15 => F_val (.func (.func 91) #[] #[.pointer (some ⟨g4, 0, none⟩)]) (fun _ => by kernel_rfl) (F_val (.pointer (some ⟨g1, 4, none⟩)) (fun _ => by kernel_rfl) (?_))))))))))))
    have HR := hr_pos HR c10
    refine F_val (.pointer (some ⟨g1, 4, none⟩)) (fun _ => by kernel_rfl) (F_load 2 4 (.int .i64 l.2.2.1.1) hM9 (by kernel_rfl) (F_val (.pointer (some ⟨g1, 7, none⟩)) (fun _ => by kernel_rfl) (F_val (.pointer (some ⟨g1, 7, none⟩)) (fun _ => by kernel_rfl) (F_load 2 7 (.int .i64 l.2.2.2.1.1) hM9 (by kernel_rfl) (F_val (.pointer (some ⟨g1, 10, none⟩)) (fun _ => by kernel_rfl) (F_val (.pointer (some ⟨g1, 10, none⟩)) (fun _ => by kernel_rfl) (F_load 2 10 (.int .i64 l.2.2.2.2.1) hM9 (by kernel_rfl) (F_call (s_lamp_Point_1 draw l.2.2.1.1 l.2.2.2.1.1 l.2.2.2.2.1) (fun r : Int => .int .i64 r) hM9 hL15 (fun w' hM' => w_lamp_Point_1 draw l.2.2.1.1 l.2.2.2.1.1 l.2.2.2.2.1 h_draw h_l.2.2.1.1 h_l.2.2.2.1.1 h_l.2.2.2.2.1 g4 _ _ w' (hM'.at 1 rfl)) (by kernel_rfl) (fun _ => by kernel_rfl) (fun r16 h17 => F_val (.func (.func 91) #[] #[.pointer (some ⟨g4, 0, none⟩)]) (fun _ => by kernel_rfl) (F_val (.pointer (some ⟨g1, 4, none⟩)) (fun _ => by kernel_rfl) (F_val (.pointer (some ⟨g1, 5, none⟩)) (fun _ => by kernel_rfl) (?_))))))))))))
    have HR := hr_lt HR h17
    refine F_load 2 5 (.int .i64 l.2.2.1.2.1) hM9 (by kernel_rfl) (F_val (.pointer (some ⟨g1, 7, none⟩)) (fun _ => by kernel_rfl) (F_val (.pointer (some ⟨g1, 8, none⟩)) (fun _ => by kernel_rfl) (F_load 2 8 (.int .i64 l.2.2.2.1.2.1) hM9 (by kernel_rfl) (F_val (.pointer (some ⟨g1, 10, none⟩)) (fun _ => by kernel_rfl) (F_val (.pointer (some ⟨g1, 11, none⟩)) (fun _ => by kernel_rfl) (F_load 2 11 (.int .i64 l.2.2.2.2.2.1) hM9 (by kernel_rfl) (F_call (s_lamp_Point_1 draw l.2.2.1.2.1 l.2.2.2.1.2.1 l.2.2.2.2.2.1) (fun r : Int => .int .i64 r) hM9 hL15 (fun w' hM' => w_lamp_Point_1 draw l.2.2.1.2.1 l.2.2.2.1.2.1 l.2.2.2.2.2.1 h_draw h_l.2.2.1.2.1 h_l.2.2.2.1.2.1 h_l.2.2.2.2.2.1 g4 _ _ w' (hM'.at 1 rfl)) (by kernel_rfl) (fun _ => by kernel_rfl) (fun r18 h19 => F_val (.func (.func 91) #[] #[.pointer (some ⟨g4, 0, none⟩)]) (fun _ => by kernel_rfl) (F_val (.pointer (some ⟨g1, 4, none⟩)) (fun _ => by kernel_rfl) (F_val (.pointer (some ⟨g1, 6, none⟩)) (fun _ => by kernel_rfl) (F_load 2 6 (.int .i64 l.2.2.1.2.2) hM9 (by kernel_rfl) (?_))))))))))))
    have HR := hr_lt HR h19
    refine F_val (.pointer (some ⟨g1, 7, none⟩)) (fun _ => by kernel_rfl) (F_val (.pointer (some ⟨g1, 9, none⟩)) (fun _ => by kernel_rfl) (F_load 2 9 (.int .i64 l.2.2.2.1.2.2) hM9 (by kernel_rfl) (F_val (.pointer (some ⟨g1, 10, none⟩)) (fun _ => by kernel_rfl) (F_val (.pointer (some ⟨g1, 12, none⟩)) (fun _ => by kernel_rfl) (F_load 2 12 (.int .i64 l.2.2.2.2.2.2) hM9 (by kernel_rfl) (F_call (s_lamp_Point_1 draw l.2.2.1.2.2 l.2.2.2.1.2.2 l.2.2.2.2.2.2) (fun r : Int => .int .i64 r) hM9 hL15 (fun w' hM' => w_lamp_Point_1 draw l.2.2.1.2.2 l.2.2.2.1.2.2 l.2.2.2.2.2.2 h_draw h_l.2.2.1.2.2 h_l.2.2.2.1.2.2 h_l.2.2.2.2.2.2 g4 _ _ w' (hM'.at 1 rfl)) (by kernel_rfl) (fun _ => by kernel_rfl) (fun r20 h21 => F_val (.agg #[.int .i64 r16, .int .i64 r18, .int .i64 r20]) (fun _ => by kernel_rfl) (F_nil hM9 hL15 (fun w22 hM23 => S_store 0 0 #[.int .i64 r16, .int .i64 r18, .int .i64 r20] hM23 (by kernel_rfl) (fun w24 hM25 => S_nil (?_)))))))))))
    have HR := hr_lt HR h21
    refine R_ret hM25 rfl (.cons (.cell _ _ 0 0 (.agg #[.int .i64 r16, .int .i64 r18, .int .i64 r20]) (by kernel_rfl)) .nil) rfl ?_
    exact ⟨congrArg Ending.returned HR, hM25.below⟩

def P_lamp_Point (r : Int × Int × Int) : Prop := InV r
theorem i_lamp_Point (l : Int × (Int × Int × Int) × (Int × Int × Int) × (Int × Int × Int) × (Int × Int × Int)) (draw : Int × Int) (h_l : (InI l.1 ∧ InV l.2.1 ∧ InV l.2.2.1 ∧ InV l.2.2.2.1 ∧ InV l.2.2.2.2)) (h_draw : (InU32 draw.1 ∧ InU32 draw.2)) : P_lamp_Point (s_lamp_Point l draw) := by
  unfold s_lamp_Point
  exact (ite_P (fun c10 => (lt_P fun r16 h17 => (lt_P fun r18 h19 => (lt_P fun r20 h21 => (show InV (r16, r18, r20) from ⟨(tr (P := fun r : Int => InI r) h17 (i_lamp_Point_1 draw l.2.2.1.1 l.2.2.2.1.1 l.2.2.2.2.1 h_draw h_l.2.2.1.1 h_l.2.2.2.1.1 h_l.2.2.2.2.1)).out, (tr (P := fun r : Int => InI r) h19 (i_lamp_Point_1 draw l.2.2.1.2.1 l.2.2.2.1.2.1 l.2.2.2.2.2.1 h_draw h_l.2.2.1.2.1 h_l.2.2.2.1.2.1 h_l.2.2.2.2.2.1)).out, (tr (P := fun r : Int => InI r) h21 (i_lamp_Point_1 draw l.2.2.1.2.2 l.2.2.2.1.2.2 l.2.2.2.2.2.2 h_draw h_l.2.2.1.2.2 h_l.2.2.2.1.2.2 h_l.2.2.2.2.2.2)).out⟩))))) (fun c10 => (show InV l.2.2.1 from h_l.2.2.1)))

def e__umbra_lamp_near__comes (r : (Int × Int × Int) × Int) : Value := .tuple #[.agg #[.int .i64 r.1.1, .int .i64 r.1.2.1, .int .i64 r.1.2.2], .int .i64 r.2]
def s__umbra_lamp_near__comes (s : (Int × Int × Int)) (at1_ : Int × Int × Int) (n : Int × Int × Int) : (Int × Int × Int) × Int :=
  lt (s_tri_Sub s at1_) fun r13 =>
  lt (vtow r13) fun r22 =>
  lt (vdot n r22) fun r24 =>
  if (r13 : Int × Int × Int) = (0, 0, 0) then
    ((0, 0, 0), 0)
  else
    if r24 ≤ 0 then
      ((0, 0, 0), 0)
    else
      lt (s_tri_Dot r13 r13) fun r37 =>
      lt (mdN r24 1048576 r37) fun r39 =>
      (r13, r39)
set_option maxRecDepth 100000 in
set_option maxHeartbeats 4000000 in
theorem w__umbra_lamp_near__comes (s : (Int × Int × Int)) (at1_ : Int × Int × Int) (n : Int × Int × Int) (h_s : (InV s)) (h_at1_ : InV at1_) (h_n : InV n) (w : World) : Calls Try.prog 143 #[.agg #[.int .i64 s.1, .int .i64 s.2.1, .int .i64 s.2.2], .agg #[.int .i64 at1_.1, .int .i64 at1_.2.1, .int .i64 at1_.2.2], .agg #[.int .i64 n.1, .int .i64 n.2.1, .int .i64 n.2.2]] w (Ret (e__umbra_lamp_near__comes (s__umbra_lamp_near__comes s at1_ n)) w) := by
  obtain ⟨R, HR⟩ : ∃ R, e__umbra_lamp_near__comes (s__umbra_lamp_near__comes s at1_ n) = R := ⟨_, rfl⟩
  rw [HR]
  unfold s__umbra_lamp_near__comes at HR
  have hM0 := St.start w
  refine calls_run Try.func143 rfl ?_
  refine R_seq (R_region (S_fresh none #[.int .i64 s.1, .int .i64 s.2.1, .int .i64 s.2.2] 102 hM0 (by kernel_rfl) (fun g1 w2 hM3 => S_fresh none #[.int .i64 at1_.1, .int .i64 at1_.2.1, .int .i64 at1_.2.2] 23 hM3 (by kernel_rfl) (fun g4 w5 hM6 => S_fresh none #[.int .i64 n.1, .int .i64 n.2.1, .int .i64 n.2.2] 26 hM6 (by kernel_rfl) (fun g7 w8 hM9 => S_fresh none #[.int .i64 0, .int .i64 0, .int .i64 0] 23 hM9 (by kernel_rfl) (fun g10 w11 hM12 => S_val (.int .i64 0) (by kernel_rfl) (S_nil (R_seq (R_region (S_val (.pointer (some ⟨g1, 0, none⟩)) (by kernel_rfl) (S_load 3 0 (.agg #[.int .i64 s.1, .int .i64 s.2.1, .int .i64 s.2.2]) hM12 (by kernel_rfl) (?_))))))))))))
  refine S_load 2 0 (.agg #[.int .i64 at1_.1, .int .i64 at1_.2.1, .int .i64 at1_.2.2]) hM12 (by kernel_rfl) (S_call (s_tri_Sub s at1_) (fun r : Int × Int × Int => .agg #[.int .i64 r.1, .int .i64 r.2.1, .int .i64 r.2.2]) hM12 (w_tri_Sub s at1_ h_s h_at1_ w11) (by kernel_rfl) (fun r13 h14 w15 hM16 => S_store 0 0 #[.int .i64 r13.1, .int .i64 r13.2.1, .int .i64 r13.2.2] hM16 (by kernel_rfl) (fun w17 hM18 => S_nil (R_seq (R_drawF 5 (by kernel_rfl) (fun F19 U20 hL21 => F_load 1 0 (.agg #[.int .i64 n.1, .int .i64 n.2.1, .int .i64 n.2.2]) hM18 (by kernel_rfl) (F_load 0 0 (.agg #[.int .i64 r13.1, .int .i64 r13.2.1, .int .i64 r13.2.2]) hM18 (by kernel_rfl) (F_call (vtow r13) (fun r : Int × Int × Int => .agg #[.int .i64 r.1, .int .i64 r.2.1, .int .i64 r.2.2]) hM18 hL21 (fun w' hM' => c_vec_Toward r13 ((tr (P := fun r : Int × Int × Int => InV r) h14 (i_tri_Sub s at1_ h_s h_at1_)).out) w') (by kernel_rfl) (fun _ => by kernel_rfl) (fun r22 h23 => F_call (vdot n r22) (fun r : Int => .int .i64 r) hM18 hL21 (fun w' hM' => c_vec_Dot n r22 h_n ((tr (P := fun r : Int × Int × Int => InV r) h23 (vtow_I r13)).out) w') (by kernel_rfl) (fun _ => by kernel_rfl) (fun r24 h25 => F_val (.int .i64 r24) (fun _ => by kernel_rfl) (F_nil hM18 hL21 (fun w26 hM27 => ?_))))))))))))
  have HR := hr_lt HR h14
  have HR := hr_lt HR h23
  have HR := hr_lt HR h25
  refine S_nil (R_seq (R_seq (R_region (S_load 0 0 (.agg #[.int .i64 r13.1, .int .i64 r13.2.1, .int .i64 r13.2.2]) hM27 (by kernel_rfl) (S_val (.agg #[.int .i64 0, .int .i64 0, .int .i64 0]) (by kernel_rfl) (?_))))))
  refine S_dec ((r13 : Int × Int × Int) = (0, 0, 0)) (eqv_umbra_api_Point (x := r13) (y := (0, 0, 0)) (by kernel_rfl) (by kernel_rfl) (by kernel_rfl)) (fun c28 => ?_) (fun c28 => ?_)
  · refine S_val (.bool true) (by kernel_rfl) (S_skip (by kernel_rfl) (S_skip (by kernel_rfl) (S_val (.bool true) (by kernel_rfl) (S_nil (R_yes (by kernel_rfl) (R_seq (R_region (S_val (.agg #[.int .i64 0, .int .i64 0, .int .i64 0]) (by kernel_rfl) (S_store 0 0 #[.int .i64 0, .int .i64 0, .int .i64 0] hM27 (by kernel_rfl) (fun w29 hM30 => S_val (.int .i64 0) (by kernel_rfl) (S_nil (?_))))))))))))
    have HR := hr_pos HR c28
    refine R_ret hM30 rfl (.cons (.cell _ _ 0 0 (.agg #[.int .i64 0, .int .i64 0, .int .i64 0]) (by kernel_rfl)) (.cons (.tmp _ (.int .i64 0) (by kernel_rfl)) .nil)) rfl ?_
    exact ⟨congrArg Ending.returned HR, hM30.below⟩
  · refine S_val (.bool false) (by kernel_rfl) (S_val (.int .i64 r24) (by kernel_rfl) (?_))
    have HR := hr_neg HR c28
    refine S_dec (r24 ≤ 0) (by kernel_rfl) (fun c31 => ?_) (fun c31 => ?_)
    · refine S_val (.bool true) (by kernel_rfl) (S_nil (R_yes (by kernel_rfl) (R_seq (R_region (S_val (.agg #[.int .i64 0, .int .i64 0, .int .i64 0]) (by kernel_rfl) (S_store 0 0 #[.int .i64 0, .int .i64 0, .int .i64 0] hM27 (by kernel_rfl) (fun w32 hM33 => S_val (.int .i64 0) (by kernel_rfl) (S_nil (?_)))))))))
      have HR := hr_pos HR c31
      refine R_ret hM33 rfl (.cons (.cell _ _ 0 0 (.agg #[.int .i64 0, .int .i64 0, .int .i64 0]) (by kernel_rfl)) (.cons (.tmp _ (.int .i64 0) (by kernel_rfl)) .nil)) rfl ?_
      exact ⟨congrArg Ending.returned HR, hM33.below⟩
    · refine S_val (.bool false) (by kernel_rfl) (S_nil (R_no (by kernel_rfl) (R_skip (R_seq (R_drawF 6 (by kernel_rfl) (fun F34 U35 hL36 => F_load 0 0 (.agg #[.int .i64 r13.1, .int .i64 r13.2.1, .int .i64 r13.2.2]) hM27 (by kernel_rfl) (F_val (.int .i64 r24) (fun _ => by kernel_rfl) (F_load 0 0 (.agg #[.int .i64 r13.1, .int .i64 r13.2.1, .int .i64 r13.2.2]) hM27 (by kernel_rfl) (F_load 0 0 (.agg #[.int .i64 r13.1, .int .i64 r13.2.1, .int .i64 r13.2.2]) hM27 (by kernel_rfl) (F_call (s_tri_Dot r13 r13) (fun r : Int => .int .i64 r) hM27 hL36 (fun w' hM' => w_tri_Dot r13 r13 ((tr (P := fun r : Int × Int × Int => InV r) h14 (i_tri_Sub s at1_ h_s h_at1_)).out) ((tr (P := fun r : Int × Int × Int => InV r) h14 (i_tri_Sub s at1_ h_s h_at1_)).out) w') (by kernel_rfl) (fun _ => by kernel_rfl) (fun r37 h38 => F_call (mdN r24 1048576 r37) (fun r : Int => .int .i64 r) hM27 hL36 (fun w' hM' => c_wide_MulDiv r24 1048576 r37 ((tr (P := fun r : Int => InI r) h25 (vdot_I n r22)).out) (show InI 1048576 from by unfold InI; omega) ((tr (P := fun r : Int => InI r) h38 (i_tri_Dot r13 r13 ((tr (P := fun r : Int × Int × Int => InV r) h14 (i_tri_Sub s at1_ h_s h_at1_)).out) ((tr (P := fun r : Int × Int × Int => InV r) h14 (i_tri_Sub s at1_ h_s h_at1_)).out))).out) w') (by kernel_rfl) (fun _ => by kernel_rfl) (fun r39 h40 => ?_))))))))))))
      have HR := hr_neg HR c31
      have HR := hr_lt HR h38
      have HR := hr_lt HR h40
      refine F_nil hM27 hL36 (fun w41 hM42 => S_store 0 0 #[.int .i64 r13.1, .int .i64 r13.2.1, .int .i64 r13.2.2] hM42 (by kernel_rfl) (fun w43 hM44 => S_val (.int .i64 r39) (by kernel_rfl) (S_nil (?_))))
      refine R_ret hM44 rfl (.cons (.cell _ _ 0 0 (.agg #[.int .i64 r13.1, .int .i64 r13.2.1, .int .i64 r13.2.2]) (by kernel_rfl)) (.cons (.tmp _ (.int .i64 r39) (by kernel_rfl)) .nil)) rfl ?_
      exact ⟨congrArg Ending.returned HR, hM44.below⟩

def P__umbra_lamp_near__comes (r : (Int × Int × Int) × Int) : Prop := (InV r.1 ∧ InI r.2)
theorem i__umbra_lamp_near__comes (s : (Int × Int × Int)) (at1_ : Int × Int × Int) (n : Int × Int × Int) (h_s : (InV s)) (h_at1_ : InV at1_) (h_n : InV n) : P__umbra_lamp_near__comes (s__umbra_lamp_near__comes s at1_ n) := by
  unfold s__umbra_lamp_near__comes
  exact (lt_P fun r13 h14 => (lt_P fun r22 h23 => (lt_P fun r24 h25 => (ite_P (fun c28 => (show (InV (0, 0, 0) ∧ InI 0) from ⟨⟨(show InI 0 from by unfold InI; omega), (show InI 0 from by unfold InI; omega), (show InI 0 from by unfold InI; omega)⟩, (show InI 0 from by unfold InI; omega)⟩)) (fun c28 => (ite_P (fun c31 => (show (InV (0, 0, 0) ∧ InI 0) from ⟨⟨(show InI 0 from by unfold InI; omega), (show InI 0 from by unfold InI; omega), (show InI 0 from by unfold InI; omega)⟩, (show InI 0 from by unfold InI; omega)⟩)) (fun c31 => (lt_P fun r37 h38 => (lt_P fun r39 h40 => (show (InV r13 ∧ InI r39) from ⟨(tr (P := fun r : Int × Int × Int => InV r) h14 (i_tri_Sub s at1_ h_s h_at1_)).out, (tr (P := fun r : Int => InI r) h40 (mdN_I r24 1048576 r37)).out⟩))))))))))

def e__umbra_lamp_far__comes (r : (Int × Int × Int) × Int) : Value := .tuple #[.agg #[.int .i64 r.1.1, .int .i64 r.1.2.1, .int .i64 r.1.2.2], .int .i64 r.2]
def s__umbra_lamp_far__comes (s : (Int × Int × Int)) (_1_ : Int × Int × Int) (n : Int × Int × Int) : (Int × Int × Int) × Int :=
  lt (vtow s) fun r16 =>
  lt (vdot n r16) fun r18 =>
  if r18 < 0 then
    lt (IntKind.i64.wrap (0 - s.1)) fun x26 =>
    lt (IntKind.i64.wrap (0 - s.2.1)) fun x28 =>
    lt (IntKind.i64.wrap (0 - s.2.2)) fun x30 =>
    lt (fneg r18) fun r32 =>
    lt (fneg r18) fun r34 =>
    lt (sumF [r32, r34]) fun r40 =>
    ((x26, x28, x30), r40)
  else
    lt (sumF [r18, r18]) fun r53 =>
    (s, r53)
set_option maxRecDepth 100000 in
set_option maxHeartbeats 4000000 in
theorem w__umbra_lamp_far__comes (s : (Int × Int × Int)) (_1_ : Int × Int × Int) (n : Int × Int × Int) (h_s : (InV s)) (h__1_ : InV _1_) (h_n : InV n) (w : World) : Calls Try.prog 145 #[.agg #[.int .i64 s.1, .int .i64 s.2.1, .int .i64 s.2.2], .agg #[.int .i64 _1_.1, .int .i64 _1_.2.1, .int .i64 _1_.2.2], .agg #[.int .i64 n.1, .int .i64 n.2.1, .int .i64 n.2.2]] w (Ret (e__umbra_lamp_far__comes (s__umbra_lamp_far__comes s _1_ n)) w) := by
  obtain ⟨R, HR⟩ : ∃ R, e__umbra_lamp_far__comes (s__umbra_lamp_far__comes s _1_ n) = R := ⟨_, rfl⟩
  rw [HR]
  unfold s__umbra_lamp_far__comes at HR
  have hM0 := St.start w
  refine calls_run Try.func145 rfl ?_
  refine R_seq (R_region (S_fresh none #[.int .i64 s.1, .int .i64 s.2.1, .int .i64 s.2.2] 106 hM0 (by kernel_rfl) (fun g1 w2 hM3 => S_fresh none #[.int .i64 _1_.1, .int .i64 _1_.2.1, .int .i64 _1_.2.2] 23 hM3 (by kernel_rfl) (fun g4 w5 hM6 => S_fresh none #[.int .i64 n.1, .int .i64 n.2.1, .int .i64 n.2.2] 26 hM6 (by kernel_rfl) (fun g7 w8 hM9 => S_fresh none #[.int .i64 0, .int .i64 0, .int .i64 0] 23 hM9 (by kernel_rfl) (fun g10 w11 hM12 => S_val (.int .i64 0) (by kernel_rfl) (S_nil (R_seq (R_drawF 6 (by kernel_rfl) (fun F13 U14 hL15 => F_load 1 0 (.agg #[.int .i64 n.1, .int .i64 n.2.1, .int .i64 n.2.2]) hM12 (by kernel_rfl) (F_val (.pointer (some ⟨g1, 0, none⟩)) (fun _ => by kernel_rfl) (?_))))))))))))
  refine F_load 3 0 (.agg #[.int .i64 s.1, .int .i64 s.2.1, .int .i64 s.2.2]) hM12 (by kernel_rfl) (F_call (vtow s) (fun r : Int × Int × Int => .agg #[.int .i64 r.1, .int .i64 r.2.1, .int .i64 r.2.2]) hM12 hL15 (fun w' hM' => c_vec_Toward s h_s w') (by kernel_rfl) (fun _ => by kernel_rfl) (fun r16 h17 => F_call (vdot n r16) (fun r : Int => .int .i64 r) hM12 hL15 (fun w' hM' => c_vec_Dot n r16 h_n ((tr (P := fun r : Int × Int × Int => InV r) h17 (vtow_I s)).out) w') (by kernel_rfl) (fun _ => by kernel_rfl) (fun r18 h19 => F_val (.int .i64 r18) (fun _ => by kernel_rfl) (F_nil hM12 hL15 (fun w20 hM21 => S_nil (R_seq (R_seq (R_region (S_val (.int .i64 r18) (by kernel_rfl) (?_))))))))))
  have HR := hr_lt HR h17
  have HR := hr_lt HR h19
  refine S_dec (r18 < 0) (by kernel_rfl) (fun c22 => ?_) (fun c22 => ?_)
  · refine S_nil (R_yes (by kernel_rfl) (R_seq (R_drawF 19 (by kernel_rfl) (fun F23 U24 hL25 => F_val (.pointer (some ⟨g1, 0, none⟩)) (fun _ => by kernel_rfl) (F_val (.pointer (some ⟨g1, 0, none⟩)) (fun _ => by kernel_rfl) (F_load 3 0 (.int .i64 s.1) hM21 (by kernel_rfl) (F_int (IntKind.i64.wrap (0 - s.1)) .i64 (fun _ => by kernel_rfl) (fun x26 h27 => F_val (.pointer (some ⟨g1, 0, none⟩)) (fun _ => by kernel_rfl) (F_val (.pointer (some ⟨g1, 1, none⟩)) (fun _ => by kernel_rfl) (F_load 3 1 (.int .i64 s.2.1) hM21 (by kernel_rfl) (F_int (IntKind.i64.wrap (0 - s.2.1)) .i64 (fun _ => by kernel_rfl) (fun x28 h29 => ?_))))))))))))
    have HR := hr_pos HR c22
    have HR := hr_lt HR h27
    have HR := hr_lt HR h29
    refine F_val (.pointer (some ⟨g1, 0, none⟩)) (fun _ => by kernel_rfl) (F_val (.pointer (some ⟨g1, 2, none⟩)) (fun _ => by kernel_rfl) (F_load 3 2 (.int .i64 s.2.2) hM21 (by kernel_rfl) (F_int (IntKind.i64.wrap (0 - s.2.2)) .i64 (fun _ => by kernel_rfl) (fun x30 h31 => F_val (.agg #[.int .i64 x26, .int .i64 x28, .int .i64 x30]) (fun _ => by kernel_rfl) (F_val (.int .i64 r18) (fun _ => by kernel_rfl) (F_call (fneg r18) (fun r : Int => .int .i64 r) hM21 hL25 (fun w' hM' => c_fix_Neg r18 ((tr (P := fun r : Int => InI r) h19 (vdot_I n r16)).out) w') (by kernel_rfl) (fun _ => by kernel_rfl) (fun r32 h33 => F_val (.int .i64 r18) (fun _ => by kernel_rfl) (F_call (fneg r18) (fun r : Int => .int .i64 r) hM21 hL25 (fun w' hM' => c_fix_Neg r18 ((tr (P := fun r : Int => InI r) h19 (vdot_I n r16)).out) w') (by kernel_rfl) (fun _ => by kernel_rfl) (fun r34 h35 => F_fresh (some 2) #[.int .i64 r32, .int .i64 r34] 24 hL25 (by kernel_rfl) (fun _ => by kernel_rfl) (fun g36 F37 U38 hL39 => F_call (sumF [r32, r34]) (fun r : Int => .int .i64 r) hM21 hL39 (fun w' hM' => c_fixAdd [r32, r34] ⟨(tr (P := fun r : Int => InI r) h33 (fneg_I r18)).out, (tr (P := fun r : Int => InI r) h35 (fneg_I r18)).out, trivial⟩ (by kernel_rfl) hM' 0 2 2 rfl (by kernel_rfl) (by kernel_rfl)) (by kernel_rfl) (fun _ => by kernel_rfl) (fun r40 h41 => F_nil hM21 hL39 (fun w42 hM43 => ?_))))))))))))
    have HR := hr_lt HR h31
    have HR := hr_lt HR h33
    have HR := hr_lt HR h35
    have HR := hr_lt HR h41
    refine S_store 1 0 #[.int .i64 x26, .int .i64 x28, .int .i64 x30] hM43 (by kernel_rfl) (fun w44 hM45 => S_val (.int .i64 r40) (by kernel_rfl) (S_nil (?_)))
    refine R_ret hM45 rfl (.cons (.cell _ _ 1 0 (.agg #[.int .i64 x26, .int .i64 x28, .int .i64 x30]) (by kernel_rfl)) (.cons (.tmp _ (.int .i64 r40) (by kernel_rfl)) .nil)) rfl ?_
    exact ⟨congrArg Ending.returned HR, hM45.below⟩
  · refine S_nil (R_no (by kernel_rfl) (R_skip (R_seq (R_drawF 6 (by kernel_rfl) (fun F46 U47 hL48 => F_val (.pointer (some ⟨g1, 0, none⟩)) (fun _ => by kernel_rfl) (F_load 3 0 (.agg #[.int .i64 s.1, .int .i64 s.2.1, .int .i64 s.2.2]) hM21 (by kernel_rfl) (F_val (.int .i64 r18) (fun _ => by kernel_rfl) (F_val (.int .i64 r18) (fun _ => by kernel_rfl) (F_fresh (some 2) #[.int .i64 r18, .int .i64 r18] 24 hL48 (by kernel_rfl) (fun _ => by kernel_rfl) (fun g49 F50 U51 hL52 => F_call (sumF [r18, r18]) (fun r : Int => .int .i64 r) hM21 hL52 (fun w' hM' => c_fixAdd [r18, r18] ⟨(tr (P := fun r : Int => InI r) h19 (vdot_I n r16)).out, (tr (P := fun r : Int => InI r) h19 (vdot_I n r16)).out, trivial⟩ (by kernel_rfl) hM' 0 2 2 rfl (by kernel_rfl) (by kernel_rfl)) (by kernel_rfl) (fun _ => by kernel_rfl) (fun r53 h54 => F_nil hM21 hL52 (fun w55 hM56 => ?_))))))))))))
    have HR := hr_neg HR c22
    have HR := hr_lt HR h54
    refine S_store 1 0 #[.int .i64 s.1, .int .i64 s.2.1, .int .i64 s.2.2] hM56 (by kernel_rfl) (fun w57 hM58 => S_val (.int .i64 r53) (by kernel_rfl) (S_nil (?_)))
    refine R_ret hM58 rfl (.cons (.cell _ _ 1 0 (.agg #[.int .i64 s.1, .int .i64 s.2.1, .int .i64 s.2.2]) (by kernel_rfl)) (.cons (.tmp _ (.int .i64 r53) (by kernel_rfl)) .nil)) rfl ?_
    exact ⟨congrArg Ending.returned HR, hM58.below⟩

def P__umbra_lamp_far__comes (r : (Int × Int × Int) × Int) : Prop := (InV r.1 ∧ InI r.2)
theorem i__umbra_lamp_far__comes (s : (Int × Int × Int)) (_1_ : Int × Int × Int) (n : Int × Int × Int) (h_s : (InV s)) (h__1_ : InV _1_) (h_n : InV n) : P__umbra_lamp_far__comes (s__umbra_lamp_far__comes s _1_ n) := by
  unfold s__umbra_lamp_far__comes
  exact (lt_P fun r16 h17 => (lt_P fun r18 h19 => (ite_P (fun c22 => (lt_P fun x26 h27 => (lt_P fun x28 h29 => (lt_P fun x30 h31 => (lt_P fun r32 h33 => (lt_P fun r34 h35 => (lt_P fun r40 h41 => (show (InV (x26, x28, x30) ∧ InI r40) from ⟨⟨(wr_i64 h27), (wr_i64 h29), (wr_i64 h31)⟩, (tr (P := fun r : Int => InI r) h41 (sumF_I [r32, r34])).out⟩)))))))) (fun c22 => (lt_P fun r53 h54 => (show (InV s ∧ InI r53) from ⟨h_s, (tr (P := fun r : Int => InI r) h54 (sumF_I [r18, r18])).out⟩))))))

def e_lamp_Sample (r : (Int × Int × Int) × Bool × Bool × (Int × Int × Int)) : Value := .agg #[.int .i64 r.1.1, .int .i64 r.1.2.1, .int .i64 r.1.2.2, .bool r.2.1, .bool r.2.2.1, .int .i64 r.2.2.2.1, .int .i64 r.2.2.2.2.1, .int .i64 r.2.2.2.2.2]
def s_lamp_Sample (l : Int × (Int × Int × Int) × (Int × Int × Int) × (Int × Int × Int) × (Int × Int × Int)) (at1_ : Int × Int × Int) (n : Int × Int × Int) (draw : Int × Int) : (Int × Int × Int) × Bool × Bool × (Int × Int × Int) :=
  lt (s_asset_Light l) fun r21 =>
  if r21 = 0 then
    lt (s_tri_May at1_ (1, 0, 0)) fun r28 =>
    if r28 = true then
      lt (s_lamp_Point l draw) fun r34 =>
      if l.1 = 2 then
        lt (pdir draw.1) fun r39 =>
        lt (s__umbra_lamp_far__comes r39 at1_ n) fun r43 =>
        if r43.2 = 0 then
          ((0, 0, 0), false, true, (0, 0, 0))
        else
          lt (s_lamp_Bright l) fun r63 =>
          lt (vscale r63 r43.2) fun r65 =>
          (r43.1, true, false, r65)
      else
        lt (s__umbra_lamp_near__comes r34 at1_ n) fun r71 =>
        if (r71.1 : Int × Int × Int) = (0, 0, 0) then
          ((0, 0, 0), false, true, (0, 0, 0))
        else
          lt (s_lamp_Bright l) fun r91 =>
          lt (vscale r91 r71.2) fun r93 =>
          (r71.1, false, false, r93)
    else
      ((0, 0, 0), false, true, (0, 0, 0))
  else
    ((0, 0, 0), false, true, (0, 0, 0))
set_option maxRecDepth 100000 in
set_option maxHeartbeats 4000000 in
theorem w_lamp_Sample (l : Int × (Int × Int × Int) × (Int × Int × Int) × (Int × Int × Int) × (Int × Int × Int)) (at1_ : Int × Int × Int) (n : Int × Int × Int) (draw : Int × Int) (h_l : (InI l.1 ∧ InV l.2.1 ∧ InV l.2.2.1 ∧ InV l.2.2.2.1 ∧ InV l.2.2.2.2)) (h_at1_ : InV at1_) (h_n : InV n) (h_draw : (InU32 draw.1 ∧ InU32 draw.2)) (w : World) : Calls Try.prog 33 #[.agg #[.int .i64 l.1, .int .i64 l.2.1.1, .int .i64 l.2.1.2.1, .int .i64 l.2.1.2.2, .int .i64 l.2.2.1.1, .int .i64 l.2.2.1.2.1, .int .i64 l.2.2.1.2.2, .int .i64 l.2.2.2.1.1, .int .i64 l.2.2.2.1.2.1, .int .i64 l.2.2.2.1.2.2, .int .i64 l.2.2.2.2.1, .int .i64 l.2.2.2.2.2.1, .int .i64 l.2.2.2.2.2.2], .agg #[.int .i64 at1_.1, .int .i64 at1_.2.1, .int .i64 at1_.2.2], .agg #[.int .i64 n.1, .int .i64 n.2.1, .int .i64 n.2.2], .agg #[.int .u32 draw.1, .int .u32 draw.2]] w (Ret (e_lamp_Sample (s_lamp_Sample l at1_ n draw)) w) := by
  obtain ⟨R, HR⟩ : ∃ R, e_lamp_Sample (s_lamp_Sample l at1_ n draw) = R := ⟨_, rfl⟩
  rw [HR]
  unfold s_lamp_Sample at HR
  have hM0 := St.start w
  refine calls_run Try.func33 rfl ?_
  refine R_seq (R_region (S_fresh none #[.int .i64 l.1, .int .i64 l.2.1.1, .int .i64 l.2.1.2.1, .int .i64 l.2.1.2.2, .int .i64 l.2.2.1.1, .int .i64 l.2.2.1.2.1, .int .i64 l.2.2.1.2.2, .int .i64 l.2.2.2.1.1, .int .i64 l.2.2.2.1.2.1, .int .i64 l.2.2.2.1.2.2, .int .i64 l.2.2.2.2.1, .int .i64 l.2.2.2.2.2.1, .int .i64 l.2.2.2.2.2.2] 58 hM0 (by kernel_rfl) (fun g1 w2 hM3 => S_fresh none #[.int .i64 at1_.1, .int .i64 at1_.2.1, .int .i64 at1_.2.2] 23 hM3 (by kernel_rfl) (fun g4 w5 hM6 => S_fresh none #[.int .i64 n.1, .int .i64 n.2.1, .int .i64 n.2.2] 26 hM6 (by kernel_rfl) (fun g7 w8 hM9 => S_fresh none #[.int .u32 draw.1, .int .u32 draw.2] 49 hM9 (by kernel_rfl) (fun g10 w11 hM12 => S_fresh none #[.int .i64 0, .int .i64 0, .int .i64 0, .bool false, .bool false, .int .i64 0, .int .i64 0, .int .i64 0] 62 hM12 (by kernel_rfl) (fun g13 w14 hM15 => S_nil (R_seq (R_region (S_val (.agg #[.int .i64 0, .int .i64 0, .int .i64 0, .bool false, .bool true, .int .i64 0, .int .i64 0, .int .i64 0]) (by kernel_rfl) (S_fresh none #[.int .i64 0, .int .i64 0, .int .i64 0, .bool false, .bool false, .int .i64 0, .int .i64 0, .int .i64 0] 62 hM15 (by kernel_rfl) (fun g16 w17 hM18 => ?_))))))))))))
  refine S_store 0 0 #[.int .i64 0, .int .i64 0, .int .i64 0, .bool false, .bool true, .int .i64 0, .int .i64 0, .int .i64 0] hM18 (by kernel_rfl) (fun w19 hM20 => S_nil (R_seq (R_seq (R_region (S_load 5 0 (.agg #[.int .i64 l.1, .int .i64 l.2.1.1, .int .i64 l.2.1.2.1, .int .i64 l.2.1.2.2, .int .i64 l.2.2.1.1, .int .i64 l.2.2.1.2.1, .int .i64 l.2.2.1.2.2, .int .i64 l.2.2.2.1.1, .int .i64 l.2.2.2.1.2.1, .int .i64 l.2.2.2.1.2.2, .int .i64 l.2.2.2.2.1, .int .i64 l.2.2.2.2.2.1, .int .i64 l.2.2.2.2.2.2]) hM20 (by kernel_rfl) (S_call (s_asset_Light l) (fun r : Int => .int .i64 r) hM20 (w_asset_Light l h_l w19) (by kernel_rfl) (fun r21 h22 w23 hM24 => ?_)))))))
  have HR := hr_lt HR h22
  refine S_decn (r21 = 0) (by kernel_rfl) (fun c25 => ?_) (fun c25 => ?_)
  · refine S_val (.bool true) (by kernel_rfl) (S_skip (by kernel_rfl) (S_skip (by kernel_rfl) (S_skip (by kernel_rfl) (S_skip (by kernel_rfl) (S_val (.bool true) (by kernel_rfl) (S_nil (R_yes (by kernel_rfl) (R_seq (R_region (S_load 0 0 (.agg #[.int .i64 0, .int .i64 0, .int .i64 0, .bool false, .bool true, .int .i64 0, .int .i64 0, .int .i64 0]) hM24 (by kernel_rfl) (S_store 1 0 #[.int .i64 0, .int .i64 0, .int .i64 0, .bool false, .bool true, .int .i64 0, .int .i64 0, .int .i64 0] hM24 (by kernel_rfl) (fun w26 hM27 => ?_))))))))))))
    have HR := hr_neg HR c25
    refine S_nil (?_)
    refine R_ret hM27 rfl (.cons (.cell _ _ 1 0 (.agg #[.int .i64 0, .int .i64 0, .int .i64 0, .bool false, .bool true, .int .i64 0, .int .i64 0, .int .i64 0]) (by kernel_rfl)) .nil) rfl ?_
    exact ⟨congrArg Ending.returned HR, hM27.below⟩
  · refine S_val (.bool false) (by kernel_rfl) (S_load 4 0 (.agg #[.int .i64 at1_.1, .int .i64 at1_.2.1, .int .i64 at1_.2.2]) hM24 (by kernel_rfl) (S_val (.agg #[.int .i64 1, .int .i64 0, .int .i64 0]) (by kernel_rfl) (S_call (s_tri_May at1_ (1, 0, 0)) (fun r : Bool => .bool r) hM24 (w_tri_May at1_ (1, 0, 0) h_at1_ (⟨(show InI 1 from by unfold InI; omega), (show InI 0 from by unfold InI; omega), (show InI 0 from by unfold InI; omega)⟩) w23) (by kernel_rfl) (fun r28 h29 w30 hM31 => ?_))))
    have HR := hr_pos HR c25
    have HR := hr_lt HR h29
    cases r28
    · refine S_val (.bool true) (by kernel_rfl) (S_val (.bool true) (by kernel_rfl) (S_nil (R_yes (by kernel_rfl) (R_seq (R_region (S_load 0 0 (.agg #[.int .i64 0, .int .i64 0, .int .i64 0, .bool false, .bool true, .int .i64 0, .int .i64 0, .int .i64 0]) hM31 (by kernel_rfl) (S_store 1 0 #[.int .i64 0, .int .i64 0, .int .i64 0, .bool false, .bool true, .int .i64 0, .int .i64 0, .int .i64 0] hM31 (by kernel_rfl) (fun w32 hM33 => S_nil (?_)))))))))
      have HR := hr_neg HR Bool.false_ne_true
      refine R_ret hM33 rfl (.cons (.cell _ _ 1 0 (.agg #[.int .i64 0, .int .i64 0, .int .i64 0, .bool false, .bool true, .int .i64 0, .int .i64 0, .int .i64 0]) (by kernel_rfl)) .nil) rfl ?_
      exact ⟨congrArg Ending.returned HR, hM33.below⟩
    · refine S_val (.bool false) (by kernel_rfl) (S_val (.bool false) (by kernel_rfl) (S_nil (R_no (by kernel_rfl) (R_skip (R_seq (R_region (S_load 5 0 (.agg #[.int .i64 l.1, .int .i64 l.2.1.1, .int .i64 l.2.1.2.1, .int .i64 l.2.1.2.2, .int .i64 l.2.2.1.1, .int .i64 l.2.2.1.2.1, .int .i64 l.2.2.1.2.2, .int .i64 l.2.2.2.1.1, .int .i64 l.2.2.2.1.2.1, .int .i64 l.2.2.2.1.2.2, .int .i64 l.2.2.2.2.1, .int .i64 l.2.2.2.2.2.1, .int .i64 l.2.2.2.2.2.2]) hM31 (by kernel_rfl) (S_load 2 0 (.agg #[.int .u32 draw.1, .int .u32 draw.2]) hM31 (by kernel_rfl) (S_call (s_lamp_Point l draw) (fun r : Int × Int × Int => .agg #[.int .i64 r.1, .int .i64 r.2.1, .int .i64 r.2.2]) hM31 (w_lamp_Point l draw h_l h_draw w30) (by kernel_rfl) (fun r34 h35 w36 hM37 => S_val (.agg #[.int .i64 r34.1, .int .i64 r34.2.1, .int .i64 r34.2.2]) (by kernel_rfl) (S_val (.iface 102 (.agg #[.int .i64 r34.1, .int .i64 r34.2.1, .int .i64 r34.2.2])) (by kernel_rfl) (?_))))))))))))
      have HR := hr_pos HR rfl
      have HR := hr_lt HR h35
      refine S_val (.iface 102 (.agg #[.int .i64 r34.1, .int .i64 r34.2.1, .int .i64 r34.2.2])) (by kernel_rfl) (S_nil (R_seq (R_seq (R_region (S_val (.pointer (some ⟨g1, 0, none⟩)) (by kernel_rfl) (S_load 5 0 (.int .i64 l.1) hM37 (by kernel_rfl) (?_)))))))
      refine S_dec (l.1 = 2) (by kernel_rfl) (fun c38 => ?_) (fun c38 => ?_)
      · refine S_nil (R_yes (by kernel_rfl) (R_region (S_val (.pointer (some ⟨g10, 0, none⟩)) (by kernel_rfl) (S_load 2 0 (.int .u32 draw.1) hM37 (by kernel_rfl) (S_call (pdir draw.1) (fun r : Int × Int × Int => .agg #[.int .i64 r.1, .int .i64 r.2.1, .int .i64 r.2.2]) hM37 (c_octa_Pick draw.1 h_draw.1 w36) (by kernel_rfl) (fun r39 h40 w41 hM42 => S_val (.agg #[.int .i64 r39.1, .int .i64 r39.2.1, .int .i64 r39.2.2]) (by kernel_rfl) (S_val (.iface 106 (.agg #[.int .i64 r39.1, .int .i64 r39.2.1, .int .i64 r39.2.2])) (by kernel_rfl) (S_val (.iface 106 (.agg #[.int .i64 r39.1, .int .i64 r39.2.1, .int .i64 r39.2.2])) (by kernel_rfl) (S_nil (R_seq (R_region (?_))))))))))))
        have HR := hr_pos HR c38
        have HR := hr_lt HR h40
        refine S_val (.iface 106 (.agg #[.int .i64 r39.1, .int .i64 r39.2.1, .int .i64 r39.2.2])) (by kernel_rfl) (S_load 4 0 (.agg #[.int .i64 at1_.1, .int .i64 at1_.2.1, .int .i64 at1_.2.2]) hM42 (by kernel_rfl) (S_load 3 0 (.agg #[.int .i64 n.1, .int .i64 n.2.1, .int .i64 n.2.2]) hM42 (by kernel_rfl) (S_call (s__umbra_lamp_far__comes r39 at1_ n) (fun r : (Int × Int × Int) × Int => .tuple #[.agg #[.int .i64 r.1.1, .int .i64 r.1.2.1, .int .i64 r.1.2.2], .int .i64 r.2]) hM42 (w__umbra_lamp_far__comes r39 at1_ n ((tr (P := fun r : Int × Int × Int => InV r) h40 (pdir_I h_draw.1)).out) h_at1_ h_n w41) (by kernel_rfl) (fun r43 h44 w45 hM46 => S_val (.tuple #[.agg #[.int .i64 r43.1.1, .int .i64 r43.1.2.1, .int .i64 r43.1.2.2], .int .i64 r43.2]) (by kernel_rfl) (S_val (.agg #[.int .i64 r43.1.1, .int .i64 r43.1.2.1, .int .i64 r43.1.2.2]) (by kernel_rfl) (S_val (.int .i64 r43.2) (by kernel_rfl) (S_fresh none #[.int .i64 0, .int .i64 0, .int .i64 0] 23 hM46 (by kernel_rfl) (fun g47 w48 hM49 => S_store 0 0 #[.int .i64 r43.1.1, .int .i64 r43.1.2.1, .int .i64 r43.1.2.2] hM49 (by kernel_rfl) (fun w50 hM51 => S_val (.int .i64 r43.2) (by kernel_rfl) (S_nil (R_seq (?_))))))))))))
        have HR := hr_lt HR h44
        refine R_seq (R_region (S_val (.iface 106 (.agg #[.int .i64 r39.1, .int .i64 r39.2.1, .int .i64 r39.2.2])) (by kernel_rfl) (S_val (.tuple #[.agg #[.int .i64 r39.1, .int .i64 r39.2.1, .int .i64 r39.2.2], .bool true]) (by kernel_rfl) (S_val (.tuple #[.agg #[.int .i64 r39.1, .int .i64 r39.2.1, .int .i64 r39.2.2], .bool true]) (by kernel_rfl) (S_val (.agg #[.int .i64 r39.1, .int .i64 r39.2.1, .int .i64 r39.2.2]) (by kernel_rfl) (S_val (.bool true) (by kernel_rfl) (S_fresh none #[.int .i64 0, .int .i64 0, .int .i64 0] 106 hM51 (by kernel_rfl) (fun g52 w53 hM54 => S_store 0 0 #[.int .i64 r39.1, .int .i64 r39.2.1, .int .i64 r39.2.2] hM54 (by kernel_rfl) (fun w55 hM56 => S_val (.bool true) (by kernel_rfl) (S_nil (R_seq (?_))))))))))))
        refine R_region (S_val (.bool true) (by kernel_rfl) (S_nil (R_yes (by kernel_rfl) (R_seq (R_seq (R_region (S_val (.int .i64 r43.2) (by kernel_rfl) (?_))))))))
        refine S_dec (r43.2 = 0) (by kernel_rfl) (fun c57 => ?_) (fun c57 => ?_)
        · refine S_nil (R_yes (by kernel_rfl) (R_seq (R_region (S_load 2 0 (.agg #[.int .i64 0, .int .i64 0, .int .i64 0, .bool false, .bool true, .int .i64 0, .int .i64 0, .int .i64 0]) hM56 (by kernel_rfl) (S_store 3 0 #[.int .i64 0, .int .i64 0, .int .i64 0, .bool false, .bool true, .int .i64 0, .int .i64 0, .int .i64 0] hM56 (by kernel_rfl) (fun w58 hM59 => S_nil (?_)))))))
          have HR := hr_pos HR c57
          refine R_ret hM59 rfl (.cons (.cell _ _ 3 0 (.agg #[.int .i64 0, .int .i64 0, .int .i64 0, .bool false, .bool true, .int .i64 0, .int .i64 0, .int .i64 0]) (by kernel_rfl)) .nil) rfl ?_
          exact ⟨congrArg Ending.returned HR, hM59.below⟩
        · refine S_nil (R_no (by kernel_rfl) (R_skip (R_seq (R_drawF 6 (by kernel_rfl) (fun F60 U61 hL62 => F_load 1 0 (.agg #[.int .i64 r43.1.1, .int .i64 r43.1.2.1, .int .i64 r43.1.2.2]) hM56 (by kernel_rfl) (F_load 7 0 (.agg #[.int .i64 l.1, .int .i64 l.2.1.1, .int .i64 l.2.1.2.1, .int .i64 l.2.1.2.2, .int .i64 l.2.2.1.1, .int .i64 l.2.2.1.2.1, .int .i64 l.2.2.1.2.2, .int .i64 l.2.2.2.1.1, .int .i64 l.2.2.2.1.2.1, .int .i64 l.2.2.2.1.2.2, .int .i64 l.2.2.2.2.1, .int .i64 l.2.2.2.2.2.1, .int .i64 l.2.2.2.2.2.2]) hM56 (by kernel_rfl) (F_call (s_lamp_Bright l) (fun r : Int × Int × Int => .agg #[.int .i64 r.1, .int .i64 r.2.1, .int .i64 r.2.2]) hM56 hL62 (fun w' hM' => w_lamp_Bright l h_l w') (by kernel_rfl) (fun _ => by kernel_rfl) (fun r63 h64 => F_val (.int .i64 r43.2) (fun _ => by kernel_rfl) (F_call (vscale r63 r43.2) (fun r : Int × Int × Int => .agg #[.int .i64 r.1, .int .i64 r.2.1, .int .i64 r.2.2]) hM56 hL62 (fun w' hM' => c_vec_Scale r63 r43.2 ((tr (P := fun r : Int × Int × Int => InV r) h64 (i_lamp_Bright l h_l)).out) ((tr (P := fun r : (Int × Int × Int) × Int => (InV r.1 ∧ InI r.2)) h44 (i__umbra_lamp_far__comes r39 at1_ n ((tr (P := fun r : Int × Int × Int => InV r) h40 (pdir_I h_draw.1)).out) h_at1_ h_n)).out.2) w') (by kernel_rfl) (fun _ => by kernel_rfl) (fun r65 h66 => F_val (.agg #[.int .i64 r43.1.1, .int .i64 r43.1.2.1, .int .i64 r43.1.2.2, .bool true, .bool false, .int .i64 r65.1, .int .i64 r65.2.1, .int .i64 r65.2.2]) (fun _ => by kernel_rfl) (F_nil hM56 hL62 (fun w67 hM68 => ?_))))))))))))
          have HR := hr_neg HR c57
          have HR := hr_lt HR h64
          have HR := hr_lt HR h66
          refine S_store 3 0 #[.int .i64 r43.1.1, .int .i64 r43.1.2.1, .int .i64 r43.1.2.2, .bool true, .bool false, .int .i64 r65.1, .int .i64 r65.2.1, .int .i64 r65.2.2] hM68 (by kernel_rfl) (fun w69 hM70 => S_nil (?_))
          refine R_ret hM70 rfl (.cons (.cell _ _ 3 0 (.agg #[.int .i64 r43.1.1, .int .i64 r43.1.2.1, .int .i64 r43.1.2.2, .bool true, .bool false, .int .i64 r65.1, .int .i64 r65.2.1, .int .i64 r65.2.2]) (by kernel_rfl)) .nil) rfl ?_
          exact ⟨congrArg Ending.returned HR, hM70.below⟩
      · refine S_nil (R_no (by kernel_rfl) (R_skip (R_seq (R_region (S_val (.iface 102 (.agg #[.int .i64 r34.1, .int .i64 r34.2.1, .int .i64 r34.2.2])) (by kernel_rfl) (S_load 4 0 (.agg #[.int .i64 at1_.1, .int .i64 at1_.2.1, .int .i64 at1_.2.2]) hM37 (by kernel_rfl) (S_load 3 0 (.agg #[.int .i64 n.1, .int .i64 n.2.1, .int .i64 n.2.2]) hM37 (by kernel_rfl) (S_call (s__umbra_lamp_near__comes r34 at1_ n) (fun r : (Int × Int × Int) × Int => .tuple #[.agg #[.int .i64 r.1.1, .int .i64 r.1.2.1, .int .i64 r.1.2.2], .int .i64 r.2]) hM37 (w__umbra_lamp_near__comes r34 at1_ n ((tr (P := fun r : Int × Int × Int => InV r) h35 (i_lamp_Point l draw h_l h_draw)).out) h_at1_ h_n w36) (by kernel_rfl) (fun r71 h72 w73 hM74 => S_val (.tuple #[.agg #[.int .i64 r71.1.1, .int .i64 r71.1.2.1, .int .i64 r71.1.2.2], .int .i64 r71.2]) (by kernel_rfl) (S_val (.agg #[.int .i64 r71.1.1, .int .i64 r71.1.2.1, .int .i64 r71.1.2.2]) (by kernel_rfl) (S_val (.int .i64 r71.2) (by kernel_rfl) (?_))))))))))))
        have HR := hr_neg HR c38
        have HR := hr_lt HR h72
        refine S_fresh none #[.int .i64 0, .int .i64 0, .int .i64 0] 23 hM74 (by kernel_rfl) (fun g75 w76 hM77 => S_store 0 0 #[.int .i64 r71.1.1, .int .i64 r71.1.2.1, .int .i64 r71.1.2.2] hM77 (by kernel_rfl) (fun w78 hM79 => S_val (.int .i64 r71.2) (by kernel_rfl) (S_nil (R_seq (R_seq (R_region (S_val (.iface 102 (.agg #[.int .i64 r34.1, .int .i64 r34.2.1, .int .i64 r34.2.2])) (by kernel_rfl) (S_val (.tuple #[.agg #[.int .i64 0, .int .i64 0, .int .i64 0], .bool false]) (by kernel_rfl) (S_val (.tuple #[.agg #[.int .i64 0, .int .i64 0, .int .i64 0], .bool false]) (by kernel_rfl) (S_val (.agg #[.int .i64 0, .int .i64 0, .int .i64 0]) (by kernel_rfl) (S_val (.bool false) (by kernel_rfl) (?_))))))))))))
        refine S_fresh none #[.int .i64 0, .int .i64 0, .int .i64 0] 106 hM79 (by kernel_rfl) (fun g80 w81 hM82 => S_store 0 0 #[.int .i64 0, .int .i64 0, .int .i64 0] hM82 (by kernel_rfl) (fun w83 hM84 => S_val (.bool false) (by kernel_rfl) (S_nil (R_seq (R_region (S_val (.bool false) (by kernel_rfl) (S_nil (R_no (by kernel_rfl) (R_skip (R_seq (R_seq (?_))))))))))))
        refine R_region (S_load 1 0 (.agg #[.int .i64 r71.1.1, .int .i64 r71.1.2.1, .int .i64 r71.1.2.2]) hM84 (by kernel_rfl) (S_val (.agg #[.int .i64 0, .int .i64 0, .int .i64 0]) (by kernel_rfl) (?_)))
        refine S_dec ((r71.1 : Int × Int × Int) = (0, 0, 0)) (eqv_umbra_api_Point (x := r71.1) (y := (0, 0, 0)) (by kernel_rfl) (by kernel_rfl) (by kernel_rfl)) (fun c85 => ?_) (fun c85 => ?_)
        · refine S_nil (R_yes (by kernel_rfl) (R_seq (R_region (S_load 2 0 (.agg #[.int .i64 0, .int .i64 0, .int .i64 0, .bool false, .bool true, .int .i64 0, .int .i64 0, .int .i64 0]) hM84 (by kernel_rfl) (S_store 3 0 #[.int .i64 0, .int .i64 0, .int .i64 0, .bool false, .bool true, .int .i64 0, .int .i64 0, .int .i64 0] hM84 (by kernel_rfl) (fun w86 hM87 => S_nil (?_)))))))
          have HR := hr_pos HR c85
          refine R_ret hM87 rfl (.cons (.cell _ _ 3 0 (.agg #[.int .i64 0, .int .i64 0, .int .i64 0, .bool false, .bool true, .int .i64 0, .int .i64 0, .int .i64 0]) (by kernel_rfl)) .nil) rfl ?_
          exact ⟨congrArg Ending.returned HR, hM87.below⟩
        · refine S_nil (R_no (by kernel_rfl) (R_skip (R_seq (R_drawF 6 (by kernel_rfl) (fun F88 U89 hL90 => F_load 1 0 (.agg #[.int .i64 r71.1.1, .int .i64 r71.1.2.1, .int .i64 r71.1.2.2]) hM84 (by kernel_rfl) (F_load 7 0 (.agg #[.int .i64 l.1, .int .i64 l.2.1.1, .int .i64 l.2.1.2.1, .int .i64 l.2.1.2.2, .int .i64 l.2.2.1.1, .int .i64 l.2.2.1.2.1, .int .i64 l.2.2.1.2.2, .int .i64 l.2.2.2.1.1, .int .i64 l.2.2.2.1.2.1, .int .i64 l.2.2.2.1.2.2, .int .i64 l.2.2.2.2.1, .int .i64 l.2.2.2.2.2.1, .int .i64 l.2.2.2.2.2.2]) hM84 (by kernel_rfl) (F_call (s_lamp_Bright l) (fun r : Int × Int × Int => .agg #[.int .i64 r.1, .int .i64 r.2.1, .int .i64 r.2.2]) hM84 hL90 (fun w' hM' => w_lamp_Bright l h_l w') (by kernel_rfl) (fun _ => by kernel_rfl) (fun r91 h92 => F_val (.int .i64 r71.2) (fun _ => by kernel_rfl) (F_call (vscale r91 r71.2) (fun r : Int × Int × Int => .agg #[.int .i64 r.1, .int .i64 r.2.1, .int .i64 r.2.2]) hM84 hL90 (fun w' hM' => c_vec_Scale r91 r71.2 ((tr (P := fun r : Int × Int × Int => InV r) h92 (i_lamp_Bright l h_l)).out) ((tr (P := fun r : (Int × Int × Int) × Int => (InV r.1 ∧ InI r.2)) h72 (i__umbra_lamp_near__comes r34 at1_ n ((tr (P := fun r : Int × Int × Int => InV r) h35 (i_lamp_Point l draw h_l h_draw)).out) h_at1_ h_n)).out.2) w') (by kernel_rfl) (fun _ => by kernel_rfl) (fun r93 h94 => F_val (.agg #[.int .i64 r71.1.1, .int .i64 r71.1.2.1, .int .i64 r71.1.2.2, .bool false, .bool false, .int .i64 r93.1, .int .i64 r93.2.1, .int .i64 r93.2.2]) (fun _ => by kernel_rfl) (F_nil hM84 hL90 (fun w95 hM96 => ?_))))))))))))
          have HR := hr_neg HR c85
          have HR := hr_lt HR h92
          have HR := hr_lt HR h94
          refine S_store 3 0 #[.int .i64 r71.1.1, .int .i64 r71.1.2.1, .int .i64 r71.1.2.2, .bool false, .bool false, .int .i64 r93.1, .int .i64 r93.2.1, .int .i64 r93.2.2] hM96 (by kernel_rfl) (fun w97 hM98 => S_nil (?_))
          refine R_ret hM98 rfl (.cons (.cell _ _ 3 0 (.agg #[.int .i64 r71.1.1, .int .i64 r71.1.2.1, .int .i64 r71.1.2.2, .bool false, .bool false, .int .i64 r93.1, .int .i64 r93.2.1, .int .i64 r93.2.2]) (by kernel_rfl)) .nil) rfl ?_
          exact ⟨congrArg Ending.returned HR, hM98.below⟩

def P_lamp_Sample (r : (Int × Int × Int) × Bool × Bool × (Int × Int × Int)) : Prop := (InV r.1 ∧ True ∧ True ∧ InV r.2.2.2)
theorem i_lamp_Sample (l : Int × (Int × Int × Int) × (Int × Int × Int) × (Int × Int × Int) × (Int × Int × Int)) (at1_ : Int × Int × Int) (n : Int × Int × Int) (draw : Int × Int) (h_l : (InI l.1 ∧ InV l.2.1 ∧ InV l.2.2.1 ∧ InV l.2.2.2.1 ∧ InV l.2.2.2.2)) (h_at1_ : InV at1_) (h_n : InV n) (h_draw : (InU32 draw.1 ∧ InU32 draw.2)) : P_lamp_Sample (s_lamp_Sample l at1_ n draw) := by
  unfold s_lamp_Sample
  exact (lt_P fun r21 h22 => (ite_P (fun c25 => (lt_P fun r28 h29 => (ite_P (fun c99 => (lt_P fun r34 h35 => (ite_P (fun c38 => (lt_P fun r39 h40 => (lt_P fun r43 h44 => (ite_P (fun c57 => (show (InV (0, 0, 0) ∧ True ∧ True ∧ InV (0, 0, 0)) from ⟨⟨(show InI 0 from by unfold InI; omega), (show InI 0 from by unfold InI; omega), (show InI 0 from by unfold InI; omega)⟩, trivial, trivial, ⟨(show InI 0 from by unfold InI; omega), (show InI 0 from by unfold InI; omega), (show InI 0 from by unfold InI; omega)⟩⟩)) (fun c57 => (lt_P fun r63 h64 => (lt_P fun r65 h66 => (show (InV r43.1 ∧ True ∧ True ∧ InV r65) from ⟨(tr (P := fun r : (Int × Int × Int) × Int => (InV r.1 ∧ InI r.2)) h44 (i__umbra_lamp_far__comes r39 at1_ n ((tr (P := fun r : Int × Int × Int => InV r) h40 (pdir_I h_draw.1)).out) h_at1_ h_n)).out.1, trivial, trivial, (tr (P := fun r : Int × Int × Int => InV r) h66 (vscale_I r63 r43.2)).out⟩)))))))) (fun c38 => (lt_P fun r71 h72 => (ite_P (fun c85 => (show (InV (0, 0, 0) ∧ True ∧ True ∧ InV (0, 0, 0)) from ⟨⟨(show InI 0 from by unfold InI; omega), (show InI 0 from by unfold InI; omega), (show InI 0 from by unfold InI; omega)⟩, trivial, trivial, ⟨(show InI 0 from by unfold InI; omega), (show InI 0 from by unfold InI; omega), (show InI 0 from by unfold InI; omega)⟩⟩)) (fun c85 => (lt_P fun r91 h92 => (lt_P fun r93 h94 => (show (InV r71.1 ∧ True ∧ True ∧ InV r93) from ⟨(tr (P := fun r : (Int × Int × Int) × Int => (InV r.1 ∧ InI r.2)) h72 (i__umbra_lamp_near__comes r34 at1_ n ((tr (P := fun r : Int × Int × Int => InV r) h35 (i_lamp_Point l draw h_l h_draw)).out) h_at1_ h_n)).out.1, trivial, trivial, (tr (P := fun r : Int × Int × Int => InV r) h94 (vscale_I r91 r71.2)).out⟩)))))))))) (fun c99 => (show (InV (0, 0, 0) ∧ True ∧ True ∧ InV (0, 0, 0)) from ⟨⟨(show InI 0 from by unfold InI; omega), (show InI 0 from by unfold InI; omega), (show InI 0 from by unfold InI; omega)⟩, trivial, trivial, ⟨(show InI 0 from by unfold InI; omega), (show InI 0 from by unfold InI; omega), (show InI 0 from by unfold InI; omega)⟩⟩))))) (fun c25 => (show (InV (0, 0, 0) ∧ True ∧ True ∧ InV (0, 0, 0)) from ⟨⟨(show InI 0 from by unfold InI; omega), (show InI 0 from by unfold InI; omega), (show InI 0 from by unfold InI; omega)⟩, trivial, trivial, ⟨(show InI 0 from by unfold InI; omega), (show InI 0 from by unfold InI; omega), (show InI 0 from by unfold InI; omega)⟩⟩))))

def m64 (a b : Int) : Int × Int := (wHi (a * b), wLo (a * b))
theorem m64_U {a b : Int} (ha : InU a) (hb : InU b) : InU (m64 a b).1 ∧ InU (m64 a b).2 := by
  unfold InU at *
  have h0 := Int.mul_nonneg ha.1 hb.1
  have h1 : a * b ≤ 18446744073709551615 * 18446744073709551615 := Int.mul_le_mul (by omega) (by omega) hb.1 (by omega)
  unfold m64 wHi wLo
  simp only
  omega
theorem nearV_I {s : Int} (h : InU s) (b c : Bool) : InI (nearV s b c) := by
  unfold nearV InI InU at *
  cases b <;> cases c <;> simp <;> (try split) <;> omega
theorem c_Mul64 (a b : Int) (ha : InU a) (hb : InU b) (w : World) : Calls Try.prog 85 #[.int .u64 a, .int .u64 b] w (Ret (.tuple #[.int .u64 (m64 a b).1, .int .u64 (m64 a b).2]) w) := (mul64 a b ha hb w).mono fun _ _ h => h.ret
def dvh (h l y : Int) : Int × Int := ((h * 18446744073709551616 + l) / y, (h * 18446744073709551616 + l) % y)
theorem c_Div64h (h l y : Int) (hh : InU h) (hl : InU l) (hy : InU y) (hlt : h < y) (w : World) : Calls Try.prog 87 #[.int .u64 h, .int .u64 l, .int .u64 y] w (Ret (.tuple #[.int .u64 (dvh h l y).1, .int .u64 (dvh h l y).2]) w) :=
  div64 h l y hh.1 hlt (by have := hy.2; omega) hl.1 (by have := hl.2; omega) w
theorem dvh_U {h l y : Int} (hh : InU h) (hl : InU l) (hy : InU y) (hlt : h < y) : InU (dvh h l y).1 ∧ InU (dvh h l y).2 := by
  unfold dvh InU at *
  have h1 : 0 < y := by omega
  have a0 := Int.emod_nonneg (h * 18446744073709551616 + l) (show y ≠ 0 by omega)
  have a1 := Int.emod_lt_of_pos (h * 18446744073709551616 + l) h1
  have a2 := Int.ediv_nonneg (show 0 ≤ h * 18446744073709551616 + l by omega) (show 0 ≤ y by omega)
  have a3 : (h * 18446744073709551616 + l) / y < 18446744073709551616 := by
    rw [Int.ediv_lt_iff_lt_mul h1]
    omega
  exact ⟨⟨a2, by omega⟩, a0, by omega⟩

def e_umbraref27_of (r : Int) : Value := .int .i64 r
def s_umbraref27_of (n : Int) (draw : Int) : Int :=
  lt (absU n) fun r1 =>
  lt (IntKind.u64.wrap draw) fun x5 =>
  lt (m64 r1 x5) fun r7 =>
  lt (IntKind.u64.wrap (r7.1 * 2 ^ 32)) fun x11 =>
  lt (Int.fdiv r7.2 (2 ^ 32)) fun x13 =>
  lt (bits .or .u64 x11 x13) fun x15 =>
  lt (IntKind.i64.wrap x15) fun x17 =>
  if n < 0 then
    lt (IntKind.i64.wrap (0 - x17)) fun x20 =>
    lt (bits .and .u64 r7.2 4294967295) fun x22 =>
    if x22 > 0 then
      lt (IntKind.i64.wrap (x20 - 1)) fun x25 =>
      x25
    else
      x20
  else
    x17
set_option maxRecDepth 100000 in
set_option maxHeartbeats 4000000 in
theorem w_umbraref27_of (n : Int) (draw : Int) (h_n : InI n) (h_draw : InU32 draw) (w : World) : Calls Try.prog 112 #[.int .i64 n, .int .u32 draw] w (Ret (e_umbraref27_of (s_umbraref27_of n draw)) w) := by
  obtain ⟨R, HR⟩ : ∃ R, e_umbraref27_of (s_umbraref27_of n draw) = R := ⟨_, rfl⟩
  rw [HR]
  unfold s_umbraref27_of at HR
  have hM0 := St.start w
  refine calls_run Try.func112 rfl ?_
  refine R_seq (R_region (S_val (.int .i64 0) (by kernel_rfl) (S_nil (R_seq (R_region (S_val (.int .i64 n) (by kernel_rfl) (S_call (absU n) (fun r : Int => .int .u64 r) hM0 (c_umbraref02_Size n h_n w) (by kernel_rfl) (fun r1 h2 w3 hM4 => S_val (.int .u32 draw) (by kernel_rfl) (S_int (IntKind.u64.wrap draw) .u64 (by kernel_rfl) (fun x5 h6 => S_call (m64 r1 x5) (fun r : Int × Int => .tuple #[.int .u64 r.1, .int .u64 r.2]) hM4 (c_Mul64 r1 x5 ((tr (P := fun r : Int => InU r) h2 (absU_InU h_n)).out) (wr_u64 h6) w3) (by kernel_rfl) (fun r7 h8 w9 hM10 => S_val (.tuple #[.int .u64 r7.1, .int .u64 r7.2]) (by kernel_rfl) (?_))))))))))))
  have HR := hr_lt HR h2
  have HR := hr_lt HR h6
  have HR := hr_lt HR h8
  refine S_val (.int .u64 r7.1) (by kernel_rfl) (S_val (.int .u64 r7.2) (by kernel_rfl) (S_val (.int .u64 r7.1) (by kernel_rfl) (S_val (.int .u64 r7.2) (by kernel_rfl) (S_nil (R_seq (R_region (S_val (.int .u64 r7.1) (by kernel_rfl) (S_int (IntKind.u64.wrap (r7.1 * 2 ^ 32)) .u64 (by kernel_rfl) (fun x11 h12 => S_val (.int .u64 r7.2) (by kernel_rfl) (S_int (Int.fdiv r7.2 (2 ^ 32)) .u64 (by kernel_rfl) (fun x13 h14 => S_int (bits .or .u64 x11 x13) .u64 (by kernel_rfl) (fun x15 h16 => ?_))))))))))))
  have HR := hr_lt HR h12
  have HR := hr_lt HR h14
  have HR := hr_lt HR h16
  refine S_int (IntKind.i64.wrap x15) .i64 (by kernel_rfl) (fun x17 h18 => S_val (.int .i64 x17) (by kernel_rfl) (S_nil (R_seq (R_seq (R_region (S_val (.int .i64 n) (by kernel_rfl) (?_)))))))
  have HR := hr_lt HR h18
  refine S_dec (n < 0) (by kernel_rfl) (fun c19 => ?_) (fun c19 => ?_)
  · refine S_nil (R_yes (by kernel_rfl) (R_seq (R_region (S_val (.int .i64 x17) (by kernel_rfl) (S_int (IntKind.i64.wrap (0 - x17)) .i64 (by kernel_rfl) (fun x20 h21 => S_val (.int .i64 x20) (by kernel_rfl) (S_nil (R_seq (R_region (S_val (.int .u64 r7.2) (by kernel_rfl) (S_int (bits .and .u64 r7.2 4294967295) .u64 (by kernel_rfl) (fun x22 h23 => ?_))))))))))))
    have HR := hr_pos HR c19
    have HR := hr_lt HR h21
    have HR := hr_lt HR h23
    refine S_dec (x22 > 0) (by kernel_rfl) (fun c24 => ?_) (fun c24 => ?_)
    · refine S_nil (R_yes (by kernel_rfl) (R_region (S_val (.int .i64 x20) (by kernel_rfl) (S_int (IntKind.i64.wrap (x20 - 1)) .i64 (by kernel_rfl) (fun x25 h26 => S_val (.int .i64 x25) (by kernel_rfl) (S_nil (R_seq (R_region (S_val (.int .i64 x25) (by kernel_rfl) (S_val (.int .i64 x25) (by kernel_rfl) (S_nil (?_))))))))))))
      have HR := hr_pos HR c24
      have HR := hr_lt HR h26
      refine R_ret hM10 rfl (.cons (.tmp _ (.int .i64 x25) (by kernel_rfl)) .nil) rfl ?_
      exact ⟨congrArg Ending.returned HR, hM10.below⟩
    · refine S_nil (R_no (by kernel_rfl) (R_skip (R_seq (R_region (S_val (.int .i64 x20) (by kernel_rfl) (S_val (.int .i64 x20) (by kernel_rfl) (S_nil (?_))))))))
      have HR := hr_neg HR c24
      refine R_ret hM10 rfl (.cons (.tmp _ (.int .i64 x20) (by kernel_rfl)) .nil) rfl ?_
      exact ⟨congrArg Ending.returned HR, hM10.below⟩
  · refine S_nil (R_no (by kernel_rfl) (R_skip (R_seq (R_region (S_val (.int .i64 x17) (by kernel_rfl) (S_val (.int .i64 x17) (by kernel_rfl) (S_nil (?_))))))))
    have HR := hr_neg HR c19
    refine R_ret hM10 rfl (.cons (.tmp _ (.int .i64 x17) (by kernel_rfl)) .nil) rfl ?_
    exact ⟨congrArg Ending.returned HR, hM10.below⟩

def P_umbraref27_of (r : Int) : Prop := InI r
theorem i_umbraref27_of (n : Int) (draw : Int) (h_n : InI n) (h_draw : InU32 draw) : P_umbraref27_of (s_umbraref27_of n draw) := by
  unfold s_umbraref27_of
  exact (lt_P fun r1 h2 => (lt_P fun x5 h6 => (lt_P fun r7 h8 => (lt_P fun x11 h12 => (lt_P fun x13 h14 => (lt_P fun x15 h16 => (lt_P fun x17 h18 => (ite_P (fun c19 => (lt_P fun x20 h21 => (lt_P fun x22 h23 => (ite_P (fun c24 => (lt_P fun x25 h26 => (show InI x25 from (wr_i64 h26)))) (fun c24 => (show InI x20 from (wr_i64 h21))))))) (fun c19 => (show InI x17 from (wr_i64 h18)))))))))))

def e_umbraref27_Point (r : Int × Int × Int) : Value := .agg #[.int .i64 r.1, .int .i64 r.2.1, .int .i64 r.2.2]
def s_umbraref27_Point (l : Int × (Int × Int × Int) × (Int × Int × Int) × (Int × Int × Int) × (Int × Int × Int)) (draw : Int × Int) : Int × Int × Int :=
  if l.1 = 1 then
    lt (s_umbraref27_of l.2.2.2.1.1 draw.1) fun r16 =>
    lt (IntKind.i64.wrap (l.2.2.1.1 + r16)) fun x18 =>
    lt (s_umbraref27_of l.2.2.2.2.1 draw.2) fun r20 =>
    lt (IntKind.i64.wrap (x18 + r20)) fun x22 =>
    lt (s_umbraref27_of l.2.2.2.1.2.1 draw.1) fun r29 =>
    lt (IntKind.i64.wrap (l.2.2.1.2.1 + r29)) fun x31 =>
    lt (s_umbraref27_of l.2.2.2.2.2.1 draw.2) fun r33 =>
    lt (IntKind.i64.wrap (x31 + r33)) fun x35 =>
    lt (s_umbraref27_of l.2.2.2.1.2.2 draw.1) fun r42 =>
    lt (IntKind.i64.wrap (l.2.2.1.2.2 + r42)) fun x44 =>
    lt (s_umbraref27_of l.2.2.2.2.2.2 draw.2) fun r46 =>
    lt (IntKind.i64.wrap (x44 + r46)) fun x48 =>
    (x22, x35, x48)
  else
    l.2.2.1
set_option maxRecDepth 100000 in
set_option maxHeartbeats 4000000 in
theorem w_umbraref27_Point (l : Int × (Int × Int × Int) × (Int × Int × Int) × (Int × Int × Int) × (Int × Int × Int)) (draw : Int × Int) (h_l : (InI l.1 ∧ InV l.2.1 ∧ InV l.2.2.1 ∧ InV l.2.2.2.1 ∧ InV l.2.2.2.2)) (h_draw : (InU32 draw.1 ∧ InU32 draw.2)) (w : World) : Calls Try.prog 83 #[.agg #[.int .i64 l.1, .int .i64 l.2.1.1, .int .i64 l.2.1.2.1, .int .i64 l.2.1.2.2, .int .i64 l.2.2.1.1, .int .i64 l.2.2.1.2.1, .int .i64 l.2.2.1.2.2, .int .i64 l.2.2.2.1.1, .int .i64 l.2.2.2.1.2.1, .int .i64 l.2.2.2.1.2.2, .int .i64 l.2.2.2.2.1, .int .i64 l.2.2.2.2.2.1, .int .i64 l.2.2.2.2.2.2], .agg #[.int .u32 draw.1, .int .u32 draw.2]] w (Ret (e_umbraref27_Point (s_umbraref27_Point l draw)) w) := by
  obtain ⟨R, HR⟩ : ∃ R, e_umbraref27_Point (s_umbraref27_Point l draw) = R := ⟨_, rfl⟩
  rw [HR]
  unfold s_umbraref27_Point at HR
  have hM0 := St.start w
  refine calls_run Try.func83 rfl ?_
  refine R_seq (R_region (S_fresh none #[.int .i64 l.1, .int .i64 l.2.1.1, .int .i64 l.2.1.2.1, .int .i64 l.2.1.2.2, .int .i64 l.2.2.1.1, .int .i64 l.2.2.1.2.1, .int .i64 l.2.2.1.2.2, .int .i64 l.2.2.2.1.1, .int .i64 l.2.2.2.1.2.1, .int .i64 l.2.2.2.1.2.2, .int .i64 l.2.2.2.2.1, .int .i64 l.2.2.2.2.2.1, .int .i64 l.2.2.2.2.2.2] 58 hM0 (by kernel_rfl) (fun g1 w2 hM3 => S_fresh none #[.int .u32 draw.1, .int .u32 draw.2] 49 hM3 (by kernel_rfl) (fun g4 w5 hM6 => S_fresh none #[.int .i64 0, .int .i64 0, .int .i64 0] 23 hM6 (by kernel_rfl) (fun g7 w8 hM9 => S_nil (R_seq (R_seq (R_region (S_val (.pointer (some ⟨g1, 0, none⟩)) (by kernel_rfl) (S_load 2 0 (.int .i64 l.1) hM9 (by kernel_rfl) (?_)))))))))))
  refine S_decn (l.1 = 1) (by kernel_rfl) (fun c10 => ?_) (fun c10 => ?_)
  · refine S_nil (R_yes (by kernel_rfl) (R_seq (R_region (S_val (.pointer (some ⟨g1, 4, none⟩)) (by kernel_rfl) (S_load 2 4 (.agg #[.int .i64 l.2.2.1.1, .int .i64 l.2.2.1.2.1, .int .i64 l.2.2.1.2.2]) hM9 (by kernel_rfl) (S_store 0 0 #[.int .i64 l.2.2.1.1, .int .i64 l.2.2.1.2.1, .int .i64 l.2.2.1.2.2] hM9 (by kernel_rfl) (fun w11 hM12 => S_nil (?_))))))))
    have HR := hr_neg HR c10
    refine R_ret hM12 rfl (.cons (.cell _ _ 0 0 (.agg #[.int .i64 l.2.2.1.1, .int .i64 l.2.2.1.2.1, .int .i64 l.2.2.1.2.2]) (by kernel_rfl)) .nil) rfl ?_
    exact ⟨congrArg Ending.returned HR, hM12.below⟩
  · refine S_nil (R_no (by kernel_rfl) (R_skip (R_seq (R_drawF 18 (by kernel_rfl) (fun F13 U14 hL15 => F_val (.pointer (some ⟨g1, 4, none⟩)) (fun _ => by kernel_rfl) (F_val (.pointer (some ⟨g1, 4, none⟩)) (fun _ => by kernel_rfl) (F_load 2 4 (.int .i64 l.2.2.1.1) hM9 (by kernel_rfl) (F_val (.pointer (some ⟨g1, 7, none⟩)) (fun _ => by kernel_rfl) (F_val (.pointer (some ⟨g1, 7, none⟩)) (fun _ => by kernel_rfl) (F_load 2 7 (.int .i64 l.2.2.2.1.1) hM9 (by kernel_rfl) (F_val (.pointer (some ⟨g4, 0, none⟩)) (fun _ => by kernel_rfl) (?_))))))))))))
    have HR := hr_pos HR c10
    refine F_load 1 0 (.int .u32 draw.1) hM9 (by kernel_rfl) (F_call (s_umbraref27_of l.2.2.2.1.1 draw.1) (fun r : Int => .int .i64 r) hM9 hL15 (fun w' hM' => w_umbraref27_of l.2.2.2.1.1 draw.1 h_l.2.2.2.1.1 h_draw.1 w') (by kernel_rfl) (fun _ => by kernel_rfl) (fun r16 h17 => F_int (IntKind.i64.wrap (l.2.2.1.1 + r16)) .i64 (fun _ => by kernel_rfl) (fun x18 h19 => F_val (.pointer (some ⟨g1, 10, none⟩)) (fun _ => by kernel_rfl) (F_val (.pointer (some ⟨g1, 10, none⟩)) (fun _ => by kernel_rfl) (F_load 2 10 (.int .i64 l.2.2.2.2.1) hM9 (by kernel_rfl) (F_val (.pointer (some ⟨g4, 1, none⟩)) (fun _ => by kernel_rfl) (F_load 1 1 (.int .u32 draw.2) hM9 (by kernel_rfl) (F_call (s_umbraref27_of l.2.2.2.2.1 draw.2) (fun r : Int => .int .i64 r) hM9 hL15 (fun w' hM' => w_umbraref27_of l.2.2.2.2.1 draw.2 h_l.2.2.2.2.1 h_draw.2 w') (by kernel_rfl) (fun _ => by kernel_rfl) (fun r20 h21 => F_int (IntKind.i64.wrap (x18 + r20)) .i64 (fun _ => by kernel_rfl) (fun x22 h23 => F_val (.int .i64 x22) (fun _ => by kernel_rfl) (F_nil hM9 hL15 (fun w24 hM25 => ?_))))))))))))
    have HR := hr_lt HR h17
    have HR := hr_lt HR h19
    have HR := hr_lt HR h21
    have HR := hr_lt HR h23
    refine S_nil (R_seq (R_drawF 18 (by kernel_rfl) (fun F26 U27 hL28 => F_val (.pointer (some ⟨g1, 4, none⟩)) (fun _ => by kernel_rfl) (F_val (.pointer (some ⟨g1, 5, none⟩)) (fun _ => by kernel_rfl) (F_load 2 5 (.int .i64 l.2.2.1.2.1) hM25 (by kernel_rfl) (F_val (.pointer (some ⟨g1, 7, none⟩)) (fun _ => by kernel_rfl) (F_val (.pointer (some ⟨g1, 8, none⟩)) (fun _ => by kernel_rfl) (F_load 2 8 (.int .i64 l.2.2.2.1.2.1) hM25 (by kernel_rfl) (F_val (.pointer (some ⟨g4, 0, none⟩)) (fun _ => by kernel_rfl) (F_load 1 0 (.int .u32 draw.1) hM25 (by kernel_rfl) (F_call (s_umbraref27_of l.2.2.2.1.2.1 draw.1) (fun r : Int => .int .i64 r) hM25 hL28 (fun w' hM' => w_umbraref27_of l.2.2.2.1.2.1 draw.1 h_l.2.2.2.1.2.1 h_draw.1 w') (by kernel_rfl) (fun _ => by kernel_rfl) (fun r29 h30 => ?_))))))))))))
    have HR := hr_lt HR h30
    refine F_int (IntKind.i64.wrap (l.2.2.1.2.1 + r29)) .i64 (fun _ => by kernel_rfl) (fun x31 h32 => F_val (.pointer (some ⟨g1, 10, none⟩)) (fun _ => by kernel_rfl) (F_val (.pointer (some ⟨g1, 11, none⟩)) (fun _ => by kernel_rfl) (F_load 2 11 (.int .i64 l.2.2.2.2.2.1) hM25 (by kernel_rfl) (F_val (.pointer (some ⟨g4, 1, none⟩)) (fun _ => by kernel_rfl) (F_load 1 1 (.int .u32 draw.2) hM25 (by kernel_rfl) (F_call (s_umbraref27_of l.2.2.2.2.2.1 draw.2) (fun r : Int => .int .i64 r) hM25 hL28 (fun w' hM' => w_umbraref27_of l.2.2.2.2.2.1 draw.2 h_l.2.2.2.2.2.1 h_draw.2 w') (by kernel_rfl) (fun _ => by kernel_rfl) (fun r33 h34 => F_int (IntKind.i64.wrap (x31 + r33)) .i64 (fun _ => by kernel_rfl) (fun x35 h36 => F_val (.int .i64 x35) (fun _ => by kernel_rfl) (F_nil hM25 hL28 (fun w37 hM38 => S_nil (R_seq (?_))))))))))))
    have HR := hr_lt HR h32
    have HR := hr_lt HR h34
    have HR := hr_lt HR h36
    refine R_drawF 18 (by kernel_rfl) (fun F39 U40 hL41 => F_val (.pointer (some ⟨g1, 4, none⟩)) (fun _ => by kernel_rfl) (F_val (.pointer (some ⟨g1, 6, none⟩)) (fun _ => by kernel_rfl) (F_load 2 6 (.int .i64 l.2.2.1.2.2) hM38 (by kernel_rfl) (F_val (.pointer (some ⟨g1, 7, none⟩)) (fun _ => by kernel_rfl) (F_val (.pointer (some ⟨g1, 9, none⟩)) (fun _ => by kernel_rfl) (F_load 2 9 (.int .i64 l.2.2.2.1.2.2) hM38 (by kernel_rfl) (F_val (.pointer (some ⟨g4, 0, none⟩)) (fun _ => by kernel_rfl) (F_load 1 0 (.int .u32 draw.1) hM38 (by kernel_rfl) (F_call (s_umbraref27_of l.2.2.2.1.2.2 draw.1) (fun r : Int => .int .i64 r) hM38 hL41 (fun w' hM' => w_umbraref27_of l.2.2.2.1.2.2 draw.1 h_l.2.2.2.1.2.2 h_draw.1 w') (by kernel_rfl) (fun _ => by kernel_rfl) (fun r42 h43 => F_int (IntKind.i64.wrap (l.2.2.1.2.2 + r42)) .i64 (fun _ => by kernel_rfl) (fun x44 h45 => F_val (.pointer (some ⟨g1, 10, none⟩)) (fun _ => by kernel_rfl) (?_))))))))))))
    have HR := hr_lt HR h43
    have HR := hr_lt HR h45
    refine F_val (.pointer (some ⟨g1, 12, none⟩)) (fun _ => by kernel_rfl) (F_load 2 12 (.int .i64 l.2.2.2.2.2.2) hM38 (by kernel_rfl) (F_val (.pointer (some ⟨g4, 1, none⟩)) (fun _ => by kernel_rfl) (F_load 1 1 (.int .u32 draw.2) hM38 (by kernel_rfl) (F_call (s_umbraref27_of l.2.2.2.2.2.2 draw.2) (fun r : Int => .int .i64 r) hM38 hL41 (fun w' hM' => w_umbraref27_of l.2.2.2.2.2.2 draw.2 h_l.2.2.2.2.2.2 h_draw.2 w') (by kernel_rfl) (fun _ => by kernel_rfl) (fun r46 h47 => F_int (IntKind.i64.wrap (x44 + r46)) .i64 (fun _ => by kernel_rfl) (fun x48 h49 => F_val (.int .i64 x48) (fun _ => by kernel_rfl) (F_nil hM38 hL41 (fun w50 hM51 => S_nil (R_seq (R_region (S_val (.int .i64 x22) (by kernel_rfl) (?_))))))))))))
    have HR := hr_lt HR h47
    have HR := hr_lt HR h49
    refine S_val (.int .i64 x35) (by kernel_rfl) (S_val (.int .i64 x48) (by kernel_rfl) (S_val (.agg #[.int .i64 x22, .int .i64 x35, .int .i64 x48]) (by kernel_rfl) (S_store 0 0 #[.int .i64 x22, .int .i64 x35, .int .i64 x48] hM51 (by kernel_rfl) (fun w52 hM53 => S_nil (?_)))))
    refine R_ret hM53 rfl (.cons (.cell _ _ 0 0 (.agg #[.int .i64 x22, .int .i64 x35, .int .i64 x48]) (by kernel_rfl)) .nil) rfl ?_
    exact ⟨congrArg Ending.returned HR, hM53.below⟩

def P_umbraref27_Point (r : Int × Int × Int) : Prop := InV r
theorem i_umbraref27_Point (l : Int × (Int × Int × Int) × (Int × Int × Int) × (Int × Int × Int) × (Int × Int × Int)) (draw : Int × Int) (h_l : (InI l.1 ∧ InV l.2.1 ∧ InV l.2.2.1 ∧ InV l.2.2.2.1 ∧ InV l.2.2.2.2)) (h_draw : (InU32 draw.1 ∧ InU32 draw.2)) : P_umbraref27_Point (s_umbraref27_Point l draw) := by
  unfold s_umbraref27_Point
  exact (ite_P (fun c10 => (lt_P fun r16 h17 => (lt_P fun x18 h19 => (lt_P fun r20 h21 => (lt_P fun x22 h23 => (lt_P fun r29 h30 => (lt_P fun x31 h32 => (lt_P fun r33 h34 => (lt_P fun x35 h36 => (lt_P fun r42 h43 => (lt_P fun x44 h45 => (lt_P fun r46 h47 => (lt_P fun x48 h49 => (show InV (x22, x35, x48) from ⟨(wr_i64 h23), (wr_i64 h36), (wr_i64 h49)⟩)))))))))))))) (fun c10 => (show InV l.2.2.1 from h_l.2.2.1)))

def e_umbraref27_Sample (r : (Int × Int × Int) × Bool × Bool × (Int × Int × Int)) : Value := .agg #[.int .i64 r.1.1, .int .i64 r.1.2.1, .int .i64 r.1.2.2, .bool r.2.1, .bool r.2.2.1, .int .i64 r.2.2.2.1, .int .i64 r.2.2.2.2.1, .int .i64 r.2.2.2.2.2]
def s_umbraref27_Sample (l : Int × (Int × Int × Int) × (Int × Int × Int) × (Int × Int × Int) × (Int × Int × Int)) (at1_ : Int × Int × Int) (n : Int × Int × Int) (draw : Int × Int) : (Int × Int × Int) × Bool × Bool × (Int × Int × Int) :=
  lt (s_umbraref15_Light l) fun r21 =>
  if r21 = 0 then
    lt (s_umbraref13_Off at1_ 65536) fun r28 =>
    if r28 = true then
      ((0, 0, 0), false, true, (0, 0, 0))
    else
      if l.1 = 2 then
        lt (pdir draw.1) fun r33 =>
        lt (vtow r33) fun r45 =>
        lt (vdot n r45) fun r47 =>
        if r47 = 0 then
          ((0, 0, 0), false, true, (0, 0, 0))
        else
          if r47 < 0 then
            lt (IntKind.i64.wrap (0 - r33.1)) fun x55 =>
            lt (IntKind.i64.wrap (0 - r33.2.1)) fun x57 =>
            lt (IntKind.i64.wrap (0 - r33.2.2)) fun x59 =>
            lt (satSub 0 r47) fun r63 =>
            lt (s_umbraref27_Bright l) fun r70 =>
            lt (satAdd r63 r63) fun r72 =>
            lt (vscale r70 r72) fun r74 =>
            ((x55, x57, x59), true, false, r74)
          else
            lt (s_umbraref27_Bright l) fun r83 =>
            lt (satAdd r47 r47) fun r85 =>
            lt (vscale r83 r85) fun r87 =>
            (r33, true, false, r87)
      else
        lt (s_umbraref27_Point l draw) fun r96 =>
        lt (s_umbraref20_Sub r96 at1_) fun r98 =>
        lt (s_umbraref20_Dot r98 r98) fun r108 =>
        if r108 = 0 then
          ((0, 0, 0), false, true, (0, 0, 0))
        else
          lt (vtow r98) fun r118 =>
          lt (vdot n r118) fun r120 =>
          if r120 ≤ 0 then
            ((0, 0, 0), false, true, (0, 0, 0))
          else
            lt (IntKind.u64.wrap r120) fun x127 =>
            lt (m64 x127 1048576) fun r129 =>
            lt (nearV 0 false true) fun r133 =>
            lt (IntKind.u64.wrap r108) fun x137 =>
            if r129.1 < x137 then
              lt (IntKind.u64.wrap r108) fun x140 =>
              lt (dvh r129.1 r129.2 x140) fun r142 =>
              lt (nearV r142.1 false false) fun r146 =>
              lt (s_umbraref27_Bright l) fun r153 =>
              lt (vscale r153 r146) fun r155 =>
              (r98, false, false, r155)
            else
              lt (s_umbraref27_Bright l) fun r164 =>
              lt (vscale r164 r133) fun r166 =>
              (r98, false, false, r166)
  else
    ((0, 0, 0), false, true, (0, 0, 0))
set_option maxRecDepth 100000 in
set_option maxHeartbeats 4000000 in
theorem w_umbraref27_Sample (l : Int × (Int × Int × Int) × (Int × Int × Int) × (Int × Int × Int) × (Int × Int × Int)) (at1_ : Int × Int × Int) (n : Int × Int × Int) (draw : Int × Int) (h_l : (InI l.1 ∧ InV l.2.1 ∧ InV l.2.2.1 ∧ InV l.2.2.2.1 ∧ InV l.2.2.2.2)) (h_at1_ : InV at1_) (h_n : InV n) (h_draw : (InU32 draw.1 ∧ InU32 draw.2)) (w : World) : Calls Try.prog 34 #[.agg #[.int .i64 l.1, .int .i64 l.2.1.1, .int .i64 l.2.1.2.1, .int .i64 l.2.1.2.2, .int .i64 l.2.2.1.1, .int .i64 l.2.2.1.2.1, .int .i64 l.2.2.1.2.2, .int .i64 l.2.2.2.1.1, .int .i64 l.2.2.2.1.2.1, .int .i64 l.2.2.2.1.2.2, .int .i64 l.2.2.2.2.1, .int .i64 l.2.2.2.2.2.1, .int .i64 l.2.2.2.2.2.2], .agg #[.int .i64 at1_.1, .int .i64 at1_.2.1, .int .i64 at1_.2.2], .agg #[.int .i64 n.1, .int .i64 n.2.1, .int .i64 n.2.2], .agg #[.int .u32 draw.1, .int .u32 draw.2]] w (Ret (e_umbraref27_Sample (s_umbraref27_Sample l at1_ n draw)) w) := by
  obtain ⟨R, HR⟩ : ∃ R, e_umbraref27_Sample (s_umbraref27_Sample l at1_ n draw) = R := ⟨_, rfl⟩
  rw [HR]
  unfold s_umbraref27_Sample at HR
  have hM0 := St.start w
  refine calls_run Try.func34 rfl ?_
  refine R_seq (R_region (S_fresh none #[.int .i64 l.1, .int .i64 l.2.1.1, .int .i64 l.2.1.2.1, .int .i64 l.2.1.2.2, .int .i64 l.2.2.1.1, .int .i64 l.2.2.1.2.1, .int .i64 l.2.2.1.2.2, .int .i64 l.2.2.2.1.1, .int .i64 l.2.2.2.1.2.1, .int .i64 l.2.2.2.1.2.2, .int .i64 l.2.2.2.2.1, .int .i64 l.2.2.2.2.2.1, .int .i64 l.2.2.2.2.2.2] 58 hM0 (by kernel_rfl) (fun g1 w2 hM3 => S_fresh none #[.int .i64 at1_.1, .int .i64 at1_.2.1, .int .i64 at1_.2.2] 23 hM3 (by kernel_rfl) (fun g4 w5 hM6 => S_fresh none #[.int .i64 n.1, .int .i64 n.2.1, .int .i64 n.2.2] 26 hM6 (by kernel_rfl) (fun g7 w8 hM9 => S_fresh none #[.int .u32 draw.1, .int .u32 draw.2] 49 hM9 (by kernel_rfl) (fun g10 w11 hM12 => S_fresh none #[.int .i64 0, .int .i64 0, .int .i64 0, .bool false, .bool false, .int .i64 0, .int .i64 0, .int .i64 0] 62 hM12 (by kernel_rfl) (fun g13 w14 hM15 => S_nil (R_seq (R_region (S_val (.agg #[.int .i64 0, .int .i64 0, .int .i64 0, .bool false, .bool true, .int .i64 0, .int .i64 0, .int .i64 0]) (by kernel_rfl) (S_fresh none #[.int .i64 0, .int .i64 0, .int .i64 0, .bool false, .bool false, .int .i64 0, .int .i64 0, .int .i64 0] 62 hM15 (by kernel_rfl) (fun g16 w17 hM18 => ?_))))))))))))
  refine S_store 0 0 #[.int .i64 0, .int .i64 0, .int .i64 0, .bool false, .bool true, .int .i64 0, .int .i64 0, .int .i64 0] hM18 (by kernel_rfl) (fun w19 hM20 => S_nil (R_seq (R_seq (R_region (S_load 5 0 (.agg #[.int .i64 l.1, .int .i64 l.2.1.1, .int .i64 l.2.1.2.1, .int .i64 l.2.1.2.2, .int .i64 l.2.2.1.1, .int .i64 l.2.2.1.2.1, .int .i64 l.2.2.1.2.2, .int .i64 l.2.2.2.1.1, .int .i64 l.2.2.2.1.2.1, .int .i64 l.2.2.2.1.2.2, .int .i64 l.2.2.2.2.1, .int .i64 l.2.2.2.2.2.1, .int .i64 l.2.2.2.2.2.2]) hM20 (by kernel_rfl) (S_call (s_umbraref15_Light l) (fun r : Int => .int .i64 r) hM20 (w_umbraref15_Light l h_l w19) (by kernel_rfl) (fun r21 h22 w23 hM24 => ?_)))))))
  have HR := hr_lt HR h22
  refine S_decn (r21 = 0) (by kernel_rfl) (fun c25 => ?_) (fun c25 => ?_)
  · refine S_val (.bool true) (by kernel_rfl) (S_skip (by kernel_rfl) (S_skip (by kernel_rfl) (S_val (.bool true) (by kernel_rfl) (S_nil (R_yes (by kernel_rfl) (R_seq (R_region (S_load 0 0 (.agg #[.int .i64 0, .int .i64 0, .int .i64 0, .bool false, .bool true, .int .i64 0, .int .i64 0, .int .i64 0]) hM24 (by kernel_rfl) (S_store 1 0 #[.int .i64 0, .int .i64 0, .int .i64 0, .bool false, .bool true, .int .i64 0, .int .i64 0, .int .i64 0] hM24 (by kernel_rfl) (fun w26 hM27 => S_nil (?_)))))))))))
    have HR := hr_neg HR c25
    refine R_ret hM27 rfl (.cons (.cell _ _ 1 0 (.agg #[.int .i64 0, .int .i64 0, .int .i64 0, .bool false, .bool true, .int .i64 0, .int .i64 0, .int .i64 0]) (by kernel_rfl)) .nil) rfl ?_
    exact ⟨congrArg Ending.returned HR, hM27.below⟩
  · refine S_val (.bool false) (by kernel_rfl) (S_load 4 0 (.agg #[.int .i64 at1_.1, .int .i64 at1_.2.1, .int .i64 at1_.2.2]) hM24 (by kernel_rfl) (S_call (s_umbraref13_Off at1_ 65536) (fun r : Bool => .bool r) hM24 (w_umbraref13_Off at1_ 65536 h_at1_ (show InI 65536 from by unfold InI; omega) w23) (by kernel_rfl) (fun r28 h29 w30 hM31 => ?_)))
    have HR := hr_pos HR c25
    have HR := hr_lt HR h29
    cases r28
    · refine S_val (.bool false) (by kernel_rfl) (S_nil (R_no (by kernel_rfl) (R_skip (R_seq (R_seq (R_region (S_val (.pointer (some ⟨g1, 0, none⟩)) (by kernel_rfl) (S_load 5 0 (.int .i64 l.1) hM31 (by kernel_rfl) (?_)))))))))
      have HR := hr_neg HR Bool.false_ne_true
      refine S_dec (l.1 = 2) (by kernel_rfl) (fun c32 => ?_) (fun c32 => ?_)
      · refine S_nil (R_yes (by kernel_rfl) (R_seq (R_region (S_val (.pointer (some ⟨g10, 0, none⟩)) (by kernel_rfl) (S_load 2 0 (.int .u32 draw.1) hM31 (by kernel_rfl) (S_call (pdir draw.1) (fun r : Int × Int × Int => .agg #[.int .i64 r.1, .int .i64 r.2.1, .int .i64 r.2.2]) hM31 (c_umbraref05_Pick draw.1 h_draw.1 w30) (by kernel_rfl) (fun r33 h34 w35 hM36 => S_fresh none #[.int .i64 0, .int .i64 0, .int .i64 0] 23 hM36 (by kernel_rfl) (fun g37 w38 hM39 => S_store 0 0 #[.int .i64 r33.1, .int .i64 r33.2.1, .int .i64 r33.2.2] hM39 (by kernel_rfl) (fun w40 hM41 => S_nil (R_seq (R_drawF 5 (by kernel_rfl) (fun F42 U43 hL44 => ?_))))))))))))
        have HR := hr_pos HR c32
        have HR := hr_lt HR h34
        refine F_load 4 0 (.agg #[.int .i64 n.1, .int .i64 n.2.1, .int .i64 n.2.2]) hM41 (by kernel_rfl) (F_load 0 0 (.agg #[.int .i64 r33.1, .int .i64 r33.2.1, .int .i64 r33.2.2]) hM41 (by kernel_rfl) (F_call (vtow r33) (fun r : Int × Int × Int => .agg #[.int .i64 r.1, .int .i64 r.2.1, .int .i64 r.2.2]) hM41 hL44 (fun w' hM' => r3Toward r33 ((tr (P := fun r : Int × Int × Int => InV r) h34 (pdir_I h_draw.1)).out) w') (by kernel_rfl) (fun _ => by kernel_rfl) (fun r45 h46 => F_call (vdot n r45) (fun r : Int => .int .i64 r) hM41 hL44 (fun w' hM' => c_umbraref03_Dot n r45 h_n ((tr (P := fun r : Int × Int × Int => InV r) h46 (vtow_I r33)).out) w') (by kernel_rfl) (fun _ => by kernel_rfl) (fun r47 h48 => F_val (.int .i64 r47) (fun _ => by kernel_rfl) (F_nil hM41 hL44 (fun w49 hM50 => S_nil (R_seq (R_seq (R_region (S_val (.int .i64 r47) (by kernel_rfl) (?_)))))))))))
        have HR := hr_lt HR h46
        have HR := hr_lt HR h48
        refine S_dec (r47 = 0) (by kernel_rfl) (fun c51 => ?_) (fun c51 => ?_)
        · refine S_nil (R_yes (by kernel_rfl) (R_seq (R_region (S_load 1 0 (.agg #[.int .i64 0, .int .i64 0, .int .i64 0, .bool false, .bool true, .int .i64 0, .int .i64 0, .int .i64 0]) hM50 (by kernel_rfl) (S_store 2 0 #[.int .i64 0, .int .i64 0, .int .i64 0, .bool false, .bool true, .int .i64 0, .int .i64 0, .int .i64 0] hM50 (by kernel_rfl) (fun w52 hM53 => S_nil (?_)))))))
          have HR := hr_pos HR c51
          refine R_ret hM53 rfl (.cons (.cell _ _ 2 0 (.agg #[.int .i64 0, .int .i64 0, .int .i64 0, .bool false, .bool true, .int .i64 0, .int .i64 0, .int .i64 0]) (by kernel_rfl)) .nil) rfl ?_
          exact ⟨congrArg Ending.returned HR, hM53.below⟩
        · refine S_nil (R_no (by kernel_rfl) (R_skip (R_seq (R_seq (R_region (S_val (.int .i64 r47) (by kernel_rfl) (?_)))))))
          have HR := hr_neg HR c51
          refine S_dec (r47 < 0) (by kernel_rfl) (fun c54 => ?_) (fun c54 => ?_)
          · refine S_nil (R_yes (by kernel_rfl) (R_seq (R_region (S_val (.pointer (some ⟨g37, 0, none⟩)) (by kernel_rfl) (S_load 0 0 (.int .i64 r33.1) hM50 (by kernel_rfl) (S_int (IntKind.i64.wrap (0 - r33.1)) .i64 (by kernel_rfl) (fun x55 h56 => S_val (.pointer (some ⟨g37, 1, none⟩)) (by kernel_rfl) (S_load 0 1 (.int .i64 r33.2.1) hM50 (by kernel_rfl) (S_int (IntKind.i64.wrap (0 - r33.2.1)) .i64 (by kernel_rfl) (fun x57 h58 => S_val (.pointer (some ⟨g37, 2, none⟩)) (by kernel_rfl) (S_load 0 2 (.int .i64 r33.2.2) hM50 (by kernel_rfl) (?_))))))))))))
            have HR := hr_pos HR c54
            have HR := hr_lt HR h56
            have HR := hr_lt HR h58
            refine S_int (IntKind.i64.wrap (0 - r33.2.2)) .i64 (by kernel_rfl) (fun x59 h60 => S_val (.agg #[.int .i64 x55, .int .i64 x57, .int .i64 x59]) (by kernel_rfl) (S_store 0 0 #[.int .i64 x55, .int .i64 x57, .int .i64 x59] hM50 (by kernel_rfl) (fun w61 hM62 => S_nil (R_region (S_val (.int .i64 r47) (by kernel_rfl) (S_call (satSub 0 r47) (fun r : Int => .int .i64 r) hM62 (c_umbraref02_Sub 0 r47 (show InI 0 from by unfold InI; omega) ((tr (P := fun r : Int => InI r) h48 (vdot_I n r45)).out) w61) (by kernel_rfl) (fun r63 h64 w65 hM66 => S_val (.int .i64 r63) (by kernel_rfl) (S_nil (R_seq (R_drawF 8 (by kernel_rfl) (fun F67 U68 hL69 => F_load 0 0 (.agg #[.int .i64 x55, .int .i64 x57, .int .i64 x59]) hM66 (by kernel_rfl) (?_))))))))))))
            have HR := hr_lt HR h60
            have HR := hr_lt HR h64
            refine F_load 6 0 (.agg #[.int .i64 l.1, .int .i64 l.2.1.1, .int .i64 l.2.1.2.1, .int .i64 l.2.1.2.2, .int .i64 l.2.2.1.1, .int .i64 l.2.2.1.2.1, .int .i64 l.2.2.1.2.2, .int .i64 l.2.2.2.1.1, .int .i64 l.2.2.2.1.2.1, .int .i64 l.2.2.2.1.2.2, .int .i64 l.2.2.2.2.1, .int .i64 l.2.2.2.2.2.1, .int .i64 l.2.2.2.2.2.2]) hM66 (by kernel_rfl) (F_call (s_umbraref27_Bright l) (fun r : Int × Int × Int => .agg #[.int .i64 r.1, .int .i64 r.2.1, .int .i64 r.2.2]) hM66 hL69 (fun w' hM' => w_umbraref27_Bright l h_l w') (by kernel_rfl) (fun _ => by kernel_rfl) (fun r70 h71 => F_val (.int .i64 r63) (fun _ => by kernel_rfl) (F_val (.int .i64 r63) (fun _ => by kernel_rfl) (F_call (satAdd r63 r63) (fun r : Int => .int .i64 r) hM66 hL69 (fun w' hM' => c_umbraref02_Two r63 r63 ((tr (P := fun r : Int => InI r) h64 (satSub_I 0 r47)).out) ((tr (P := fun r : Int => InI r) h64 (satSub_I 0 r47)).out) w') (by kernel_rfl) (fun _ => by kernel_rfl) (fun r72 h73 => F_call (vscale r70 r72) (fun r : Int × Int × Int => .agg #[.int .i64 r.1, .int .i64 r.2.1, .int .i64 r.2.2]) hM66 hL69 (fun w' hM' => c_umbraref03_Scale r70 r72 ((tr (P := fun r : Int × Int × Int => InV r) h71 (i_umbraref27_Bright l h_l)).out) ((tr (P := fun r : Int => InI r) h73 (satAdd_I r63 r63)).out) w') (by kernel_rfl) (fun _ => by kernel_rfl) (fun r74 h75 => F_val (.agg #[.int .i64 x55, .int .i64 x57, .int .i64 x59, .bool true, .bool false, .int .i64 r74.1, .int .i64 r74.2.1, .int .i64 r74.2.2]) (fun _ => by kernel_rfl) (F_nil hM66 hL69 (fun w76 hM77 => S_store 2 0 #[.int .i64 x55, .int .i64 x57, .int .i64 x59, .bool true, .bool false, .int .i64 r74.1, .int .i64 r74.2.1, .int .i64 r74.2.2] hM77 (by kernel_rfl) (fun w78 hM79 => S_nil (?_))))))))))
            have HR := hr_lt HR h71
            have HR := hr_lt HR h73
            have HR := hr_lt HR h75
            refine R_ret hM79 rfl (.cons (.cell _ _ 2 0 (.agg #[.int .i64 x55, .int .i64 x57, .int .i64 x59, .bool true, .bool false, .int .i64 r74.1, .int .i64 r74.2.1, .int .i64 r74.2.2]) (by kernel_rfl)) .nil) rfl ?_
            exact ⟨congrArg Ending.returned HR, hM79.below⟩
          · refine S_nil (R_no (by kernel_rfl) (R_skip (R_seq (R_drawF 8 (by kernel_rfl) (fun F80 U81 hL82 => F_load 0 0 (.agg #[.int .i64 r33.1, .int .i64 r33.2.1, .int .i64 r33.2.2]) hM50 (by kernel_rfl) (F_load 6 0 (.agg #[.int .i64 l.1, .int .i64 l.2.1.1, .int .i64 l.2.1.2.1, .int .i64 l.2.1.2.2, .int .i64 l.2.2.1.1, .int .i64 l.2.2.1.2.1, .int .i64 l.2.2.1.2.2, .int .i64 l.2.2.2.1.1, .int .i64 l.2.2.2.1.2.1, .int .i64 l.2.2.2.1.2.2, .int .i64 l.2.2.2.2.1, .int .i64 l.2.2.2.2.2.1, .int .i64 l.2.2.2.2.2.2]) hM50 (by kernel_rfl) (F_call (s_umbraref27_Bright l) (fun r : Int × Int × Int => .agg #[.int .i64 r.1, .int .i64 r.2.1, .int .i64 r.2.2]) hM50 hL82 (fun w' hM' => w_umbraref27_Bright l h_l w') (by kernel_rfl) (fun _ => by kernel_rfl) (fun r83 h84 => F_val (.int .i64 r47) (fun _ => by kernel_rfl) (F_val (.int .i64 r47) (fun _ => by kernel_rfl) (F_call (satAdd r47 r47) (fun r : Int => .int .i64 r) hM50 hL82 (fun w' hM' => c_umbraref02_Two r47 r47 ((tr (P := fun r : Int => InI r) h48 (vdot_I n r45)).out) ((tr (P := fun r : Int => InI r) h48 (vdot_I n r45)).out) w') (by kernel_rfl) (fun _ => by kernel_rfl) (fun r85 h86 => F_call (vscale r83 r85) (fun r : Int × Int × Int => .agg #[.int .i64 r.1, .int .i64 r.2.1, .int .i64 r.2.2]) hM50 hL82 (fun w' hM' => c_umbraref03_Scale r83 r85 ((tr (P := fun r : Int × Int × Int => InV r) h84 (i_umbraref27_Bright l h_l)).out) ((tr (P := fun r : Int => InI r) h86 (satAdd_I r47 r47)).out) w') (by kernel_rfl) (fun _ => by kernel_rfl) (fun r87 h88 => ?_))))))))))))
            have HR := hr_neg HR c54
            have HR := hr_lt HR h84
            have HR := hr_lt HR h86
            have HR := hr_lt HR h88
            refine F_val (.agg #[.int .i64 r33.1, .int .i64 r33.2.1, .int .i64 r33.2.2, .bool true, .bool false, .int .i64 r87.1, .int .i64 r87.2.1, .int .i64 r87.2.2]) (fun _ => by kernel_rfl) (F_nil hM50 hL82 (fun w89 hM90 => S_store 2 0 #[.int .i64 r33.1, .int .i64 r33.2.1, .int .i64 r33.2.2, .bool true, .bool false, .int .i64 r87.1, .int .i64 r87.2.1, .int .i64 r87.2.2] hM90 (by kernel_rfl) (fun w91 hM92 => S_nil (?_))))
            refine R_ret hM92 rfl (.cons (.cell _ _ 2 0 (.agg #[.int .i64 r33.1, .int .i64 r33.2.1, .int .i64 r33.2.2, .bool true, .bool false, .int .i64 r87.1, .int .i64 r87.2.1, .int .i64 r87.2.2]) (by kernel_rfl)) .nil) rfl ?_
            exact ⟨congrArg Ending.returned HR, hM92.below⟩
      · refine S_nil (R_no (by kernel_rfl) (R_skip (R_seq (R_drawF 6 (by kernel_rfl) (fun F93 U94 hL95 => F_load 5 0 (.agg #[.int .i64 l.1, .int .i64 l.2.1.1, .int .i64 l.2.1.2.1, .int .i64 l.2.1.2.2, .int .i64 l.2.2.1.1, .int .i64 l.2.2.1.2.1, .int .i64 l.2.2.1.2.2, .int .i64 l.2.2.2.1.1, .int .i64 l.2.2.2.1.2.1, .int .i64 l.2.2.2.1.2.2, .int .i64 l.2.2.2.2.1, .int .i64 l.2.2.2.2.2.1, .int .i64 l.2.2.2.2.2.2]) hM31 (by kernel_rfl) (F_load 2 0 (.agg #[.int .u32 draw.1, .int .u32 draw.2]) hM31 (by kernel_rfl) (F_call (s_umbraref27_Point l draw) (fun r : Int × Int × Int => .agg #[.int .i64 r.1, .int .i64 r.2.1, .int .i64 r.2.2]) hM31 hL95 (fun w' hM' => w_umbraref27_Point l draw h_l h_draw w') (by kernel_rfl) (fun _ => by kernel_rfl) (fun r96 h97 => F_load 4 0 (.agg #[.int .i64 at1_.1, .int .i64 at1_.2.1, .int .i64 at1_.2.2]) hM31 (by kernel_rfl) (F_call (s_umbraref20_Sub r96 at1_) (fun r : Int × Int × Int => .agg #[.int .i64 r.1, .int .i64 r.2.1, .int .i64 r.2.2]) hM31 hL95 (fun w' hM' => w_umbraref20_Sub r96 at1_ ((tr (P := fun r : Int × Int × Int => InV r) h97 (i_umbraref27_Point l draw h_l h_draw)).out) h_at1_ w') (by kernel_rfl) (fun _ => by kernel_rfl) (fun r98 h99 => F_fresh none #[.int .i64 0, .int .i64 0, .int .i64 0] 23 hL95 (by kernel_rfl) (fun _ => by kernel_rfl) (fun g100 F101 U102 hL103 => F_nil hM31 hL103 (fun w104 hM105 => ?_))))))))))))
        have HR := hr_neg HR c32
        have HR := hr_lt HR h97
        have HR := hr_lt HR h99
        refine S_store 0 0 #[.int .i64 r98.1, .int .i64 r98.2.1, .int .i64 r98.2.2] hM105 (by kernel_rfl) (fun w106 hM107 => S_nil (R_seq (R_region (S_load 0 0 (.agg #[.int .i64 r98.1, .int .i64 r98.2.1, .int .i64 r98.2.2]) hM107 (by kernel_rfl) (S_load 0 0 (.agg #[.int .i64 r98.1, .int .i64 r98.2.1, .int .i64 r98.2.2]) hM107 (by kernel_rfl) (S_call (s_umbraref20_Dot r98 r98) (fun r : Int => .int .i64 r) hM107 (w_umbraref20_Dot r98 r98 ((tr (P := fun r : Int × Int × Int => InV r) h99 (i_umbraref20_Sub r96 at1_ ((tr (P := fun r : Int × Int × Int => InV r) h97 (i_umbraref27_Point l draw h_l h_draw)).out) h_at1_)).out) ((tr (P := fun r : Int × Int × Int => InV r) h99 (i_umbraref20_Sub r96 at1_ ((tr (P := fun r : Int × Int × Int => InV r) h97 (i_umbraref27_Point l draw h_l h_draw)).out) h_at1_)).out) w106) (by kernel_rfl) (fun r108 h109 w110 hM111 => S_val (.int .i64 r108) (by kernel_rfl) (S_nil (R_seq (R_seq (R_region (?_))))))))))))
        have HR := hr_lt HR h109
        refine S_val (.int .i64 r108) (by kernel_rfl) (?_)
        refine S_dec (r108 = 0) (by kernel_rfl) (fun c112 => ?_) (fun c112 => ?_)
        · refine S_nil (R_yes (by kernel_rfl) (R_seq (R_region (S_load 1 0 (.agg #[.int .i64 0, .int .i64 0, .int .i64 0, .bool false, .bool true, .int .i64 0, .int .i64 0, .int .i64 0]) hM111 (by kernel_rfl) (S_store 2 0 #[.int .i64 0, .int .i64 0, .int .i64 0, .bool false, .bool true, .int .i64 0, .int .i64 0, .int .i64 0] hM111 (by kernel_rfl) (fun w113 hM114 => S_nil (?_)))))))
          have HR := hr_pos HR c112
          refine R_ret hM114 rfl (.cons (.cell _ _ 2 0 (.agg #[.int .i64 0, .int .i64 0, .int .i64 0, .bool false, .bool true, .int .i64 0, .int .i64 0, .int .i64 0]) (by kernel_rfl)) .nil) rfl ?_
          exact ⟨congrArg Ending.returned HR, hM114.below⟩
        · refine S_nil (R_no (by kernel_rfl) (R_skip (R_seq (R_drawF 5 (by kernel_rfl) (fun F115 U116 hL117 => F_load 4 0 (.agg #[.int .i64 n.1, .int .i64 n.2.1, .int .i64 n.2.2]) hM111 (by kernel_rfl) (F_load 0 0 (.agg #[.int .i64 r98.1, .int .i64 r98.2.1, .int .i64 r98.2.2]) hM111 (by kernel_rfl) (F_call (vtow r98) (fun r : Int × Int × Int => .agg #[.int .i64 r.1, .int .i64 r.2.1, .int .i64 r.2.2]) hM111 hL117 (fun w' hM' => r3Toward r98 ((tr (P := fun r : Int × Int × Int => InV r) h99 (i_umbraref20_Sub r96 at1_ ((tr (P := fun r : Int × Int × Int => InV r) h97 (i_umbraref27_Point l draw h_l h_draw)).out) h_at1_)).out) w') (by kernel_rfl) (fun _ => by kernel_rfl) (fun r118 h119 => F_call (vdot n r118) (fun r : Int => .int .i64 r) hM111 hL117 (fun w' hM' => c_umbraref03_Dot n r118 h_n ((tr (P := fun r : Int × Int × Int => InV r) h119 (vtow_I r98)).out) w') (by kernel_rfl) (fun _ => by kernel_rfl) (fun r120 h121 => F_val (.int .i64 r120) (fun _ => by kernel_rfl) (F_nil hM111 hL117 (fun w122 hM123 => S_nil (?_))))))))))))
          have HR := hr_neg HR c112
          have HR := hr_lt HR h119
          have HR := hr_lt HR h121
          refine R_seq (R_seq (R_region (S_val (.int .i64 r120) (by kernel_rfl) (?_))))
          refine S_dec (r120 ≤ 0) (by kernel_rfl) (fun c124 => ?_) (fun c124 => ?_)
          · refine S_nil (R_yes (by kernel_rfl) (R_seq (R_region (S_load 1 0 (.agg #[.int .i64 0, .int .i64 0, .int .i64 0, .bool false, .bool true, .int .i64 0, .int .i64 0, .int .i64 0]) hM123 (by kernel_rfl) (S_store 2 0 #[.int .i64 0, .int .i64 0, .int .i64 0, .bool false, .bool true, .int .i64 0, .int .i64 0, .int .i64 0] hM123 (by kernel_rfl) (fun w125 hM126 => S_nil (?_)))))))
            have HR := hr_pos HR c124
            refine R_ret hM126 rfl (.cons (.cell _ _ 2 0 (.agg #[.int .i64 0, .int .i64 0, .int .i64 0, .bool false, .bool true, .int .i64 0, .int .i64 0, .int .i64 0]) (by kernel_rfl)) .nil) rfl ?_
            exact ⟨congrArg Ending.returned HR, hM126.below⟩
          · refine S_nil (R_no (by kernel_rfl) (R_skip (R_seq (R_region (S_val (.int .i64 r120) (by kernel_rfl) (S_int (IntKind.u64.wrap r120) .u64 (by kernel_rfl) (fun x127 h128 => S_call (m64 x127 1048576) (fun r : Int × Int => .tuple #[.int .u64 r.1, .int .u64 r.2]) hM123 (c_Mul64 x127 1048576 (wr_u64 h128) (show InU 1048576 from by unfold InU; omega) w122) (by kernel_rfl) (fun r129 h130 w131 hM132 => S_val (.tuple #[.int .u64 r129.1, .int .u64 r129.2]) (by kernel_rfl) (S_val (.int .u64 r129.1) (by kernel_rfl) (S_val (.int .u64 r129.2) (by kernel_rfl) (S_val (.int .u64 r129.1) (by kernel_rfl) (?_))))))))))))
            have HR := hr_neg HR c124
            have HR := hr_lt HR h128
            have HR := hr_lt HR h130
            refine S_val (.int .u64 r129.2) (by kernel_rfl) (S_nil (R_seq (R_region (S_call (nearV 0 false true) (fun r : Int => .int .i64 r) hM132 (c_Near 0 false true (show InU 0 from by unfold InU; omega) w131) (by kernel_rfl) (fun r133 h134 w135 hM136 => S_val (.int .i64 r133) (by kernel_rfl) (S_nil (R_seq (R_seq (R_region (S_val (.int .u64 r129.1) (by kernel_rfl) (S_val (.int .i64 r108) (by kernel_rfl) (?_))))))))))))
            have HR := hr_lt HR h134
            refine S_int (IntKind.u64.wrap r108) .u64 (by kernel_rfl) (fun x137 h138 => ?_)
            have HR := hr_lt HR h138
            refine S_dec (r129.1 < x137) (by kernel_rfl) (fun c139 => ?_) (fun c139 => ?_)
            · refine S_nil (R_yes (by kernel_rfl) (R_seq (R_region (S_val (.int .u64 r129.1) (by kernel_rfl) (S_val (.int .u64 r129.2) (by kernel_rfl) (S_val (.int .i64 r108) (by kernel_rfl) (S_int (IntKind.u64.wrap r108) .u64 (by kernel_rfl) (fun x140 h141 => S_call (dvh r129.1 r129.2 x140) (fun r : Int × Int => .tuple #[.int .u64 r.1, .int .u64 r.2]) hM136 (c_Div64h r129.1 r129.2 x140 ((tr (P := fun r : Int × Int => (InU r.1 ∧ InU r.2)) h130 (m64_U (wr_u64 h128) (show InU 1048576 from by unfold InU; omega))).out.1) ((tr (P := fun r : Int × Int => (InU r.1 ∧ InU r.2)) h130 (m64_U (wr_u64 h128) (show InU 1048576 from by unfold InU; omega))).out.2) (wr_u64 h141) (by subst_vars; assumption) w135) (by kernel_rfl) (fun r142 h143 w144 hM145 => S_val (.tuple #[.int .u64 r142.1, .int .u64 r142.2]) (by kernel_rfl) (S_val (.int .u64 r142.1) (by kernel_rfl) (S_val (.int .u64 r142.2) (by kernel_rfl) (?_))))))))))))
              have HR := hr_pos HR c139
              have HR := hr_lt HR h141
              have HR := hr_lt HR h143
              refine S_val (.int .u64 r142.1) (by kernel_rfl) (S_val (.int .u64 r142.2) (by kernel_rfl) (S_nil (R_region (S_val (.int .u64 r142.1) (by kernel_rfl) (S_call (nearV r142.1 false false) (fun r : Int => .int .i64 r) hM145 (c_Near r142.1 false false ((tr (P := fun r : Int × Int => (InU r.1 ∧ InU r.2)) h143 (dvh_U ((tr (P := fun r : Int × Int => (InU r.1 ∧ InU r.2)) h130 (m64_U (wr_u64 h128) (show InU 1048576 from by unfold InU; omega))).out.1) ((tr (P := fun r : Int × Int => (InU r.1 ∧ InU r.2)) h130 (m64_U (wr_u64 h128) (show InU 1048576 from by unfold InU; omega))).out.2) (wr_u64 h141) (by subst_vars; assumption))).out.1) w144) (by kernel_rfl) (fun r146 h147 w148 hM149 => S_val (.int .i64 r146) (by kernel_rfl) (S_nil (R_seq (R_drawF 6 (by kernel_rfl) (fun F150 U151 hL152 => F_load 0 0 (.agg #[.int .i64 r98.1, .int .i64 r98.2.1, .int .i64 r98.2.2]) hM149 (by kernel_rfl) (F_load 6 0 (.agg #[.int .i64 l.1, .int .i64 l.2.1.1, .int .i64 l.2.1.2.1, .int .i64 l.2.1.2.2, .int .i64 l.2.2.1.1, .int .i64 l.2.2.1.2.1, .int .i64 l.2.2.1.2.2, .int .i64 l.2.2.2.1.1, .int .i64 l.2.2.2.1.2.1, .int .i64 l.2.2.2.1.2.2, .int .i64 l.2.2.2.2.1, .int .i64 l.2.2.2.2.2.1, .int .i64 l.2.2.2.2.2.2]) hM149 (by kernel_rfl) (?_))))))))))))
              have HR := hr_lt HR h147
              refine F_call (s_umbraref27_Bright l) (fun r : Int × Int × Int => .agg #[.int .i64 r.1, .int .i64 r.2.1, .int .i64 r.2.2]) hM149 hL152 (fun w' hM' => w_umbraref27_Bright l h_l w') (by kernel_rfl) (fun _ => by kernel_rfl) (fun r153 h154 => F_val (.int .i64 r146) (fun _ => by kernel_rfl) (F_call (vscale r153 r146) (fun r : Int × Int × Int => .agg #[.int .i64 r.1, .int .i64 r.2.1, .int .i64 r.2.2]) hM149 hL152 (fun w' hM' => c_umbraref03_Scale r153 r146 ((tr (P := fun r : Int × Int × Int => InV r) h154 (i_umbraref27_Bright l h_l)).out) ((tr (P := fun r : Int => InI r) h147 (nearV_I ((tr (P := fun r : Int × Int => (InU r.1 ∧ InU r.2)) h143 (dvh_U ((tr (P := fun r : Int × Int => (InU r.1 ∧ InU r.2)) h130 (m64_U (wr_u64 h128) (show InU 1048576 from by unfold InU; omega))).out.1) ((tr (P := fun r : Int × Int => (InU r.1 ∧ InU r.2)) h130 (m64_U (wr_u64 h128) (show InU 1048576 from by unfold InU; omega))).out.2) (wr_u64 h141) (by subst_vars; assumption))).out.1) false false)).out) w') (by kernel_rfl) (fun _ => by kernel_rfl) (fun r155 h156 => F_val (.agg #[.int .i64 r98.1, .int .i64 r98.2.1, .int .i64 r98.2.2, .bool false, .bool false, .int .i64 r155.1, .int .i64 r155.2.1, .int .i64 r155.2.2]) (fun _ => by kernel_rfl) (F_nil hM149 hL152 (fun w157 hM158 => S_store 2 0 #[.int .i64 r98.1, .int .i64 r98.2.1, .int .i64 r98.2.2, .bool false, .bool false, .int .i64 r155.1, .int .i64 r155.2.1, .int .i64 r155.2.2] hM158 (by kernel_rfl) (fun w159 hM160 => S_nil (?_)))))))
              have HR := hr_lt HR h154
              have HR := hr_lt HR h156
              refine R_ret hM160 rfl (.cons (.cell _ _ 2 0 (.agg #[.int .i64 r98.1, .int .i64 r98.2.1, .int .i64 r98.2.2, .bool false, .bool false, .int .i64 r155.1, .int .i64 r155.2.1, .int .i64 r155.2.2]) (by kernel_rfl)) .nil) rfl ?_
              exact ⟨congrArg Ending.returned HR, hM160.below⟩
            · refine S_nil (R_no (by kernel_rfl) (R_skip (R_seq (R_drawF 6 (by kernel_rfl) (fun F161 U162 hL163 => F_load 0 0 (.agg #[.int .i64 r98.1, .int .i64 r98.2.1, .int .i64 r98.2.2]) hM136 (by kernel_rfl) (F_load 6 0 (.agg #[.int .i64 l.1, .int .i64 l.2.1.1, .int .i64 l.2.1.2.1, .int .i64 l.2.1.2.2, .int .i64 l.2.2.1.1, .int .i64 l.2.2.1.2.1, .int .i64 l.2.2.1.2.2, .int .i64 l.2.2.2.1.1, .int .i64 l.2.2.2.1.2.1, .int .i64 l.2.2.2.1.2.2, .int .i64 l.2.2.2.2.1, .int .i64 l.2.2.2.2.2.1, .int .i64 l.2.2.2.2.2.2]) hM136 (by kernel_rfl) (F_call (s_umbraref27_Bright l) (fun r : Int × Int × Int => .agg #[.int .i64 r.1, .int .i64 r.2.1, .int .i64 r.2.2]) hM136 hL163 (fun w' hM' => w_umbraref27_Bright l h_l w') (by kernel_rfl) (fun _ => by kernel_rfl) (fun r164 h165 => F_val (.int .i64 r133) (fun _ => by kernel_rfl) (F_call (vscale r164 r133) (fun r : Int × Int × Int => .agg #[.int .i64 r.1, .int .i64 r.2.1, .int .i64 r.2.2]) hM136 hL163 (fun w' hM' => c_umbraref03_Scale r164 r133 ((tr (P := fun r : Int × Int × Int => InV r) h165 (i_umbraref27_Bright l h_l)).out) ((tr (P := fun r : Int => InI r) h134 (nearV_I (show InU 0 from by unfold InU; omega) false true)).out) w') (by kernel_rfl) (fun _ => by kernel_rfl) (fun r166 h167 => F_val (.agg #[.int .i64 r98.1, .int .i64 r98.2.1, .int .i64 r98.2.2, .bool false, .bool false, .int .i64 r166.1, .int .i64 r166.2.1, .int .i64 r166.2.2]) (fun _ => by kernel_rfl) (F_nil hM136 hL163 (fun w168 hM169 => ?_))))))))))))
              have HR := hr_neg HR c139
              have HR := hr_lt HR h165
              have HR := hr_lt HR h167
              refine S_store 2 0 #[.int .i64 r98.1, .int .i64 r98.2.1, .int .i64 r98.2.2, .bool false, .bool false, .int .i64 r166.1, .int .i64 r166.2.1, .int .i64 r166.2.2] hM169 (by kernel_rfl) (fun w170 hM171 => S_nil (?_))
              refine R_ret hM171 rfl (.cons (.cell _ _ 2 0 (.agg #[.int .i64 r98.1, .int .i64 r98.2.1, .int .i64 r98.2.2, .bool false, .bool false, .int .i64 r166.1, .int .i64 r166.2.1, .int .i64 r166.2.2]) (by kernel_rfl)) .nil) rfl ?_
              exact ⟨congrArg Ending.returned HR, hM171.below⟩
    · refine S_val (.bool true) (by kernel_rfl) (S_nil (R_yes (by kernel_rfl) (R_seq (R_region (S_load 0 0 (.agg #[.int .i64 0, .int .i64 0, .int .i64 0, .bool false, .bool true, .int .i64 0, .int .i64 0, .int .i64 0]) hM31 (by kernel_rfl) (S_store 1 0 #[.int .i64 0, .int .i64 0, .int .i64 0, .bool false, .bool true, .int .i64 0, .int .i64 0, .int .i64 0] hM31 (by kernel_rfl) (fun w172 hM173 => S_nil (?_))))))))
      have HR := hr_pos HR rfl
      refine R_ret hM173 rfl (.cons (.cell _ _ 1 0 (.agg #[.int .i64 0, .int .i64 0, .int .i64 0, .bool false, .bool true, .int .i64 0, .int .i64 0, .int .i64 0]) (by kernel_rfl)) .nil) rfl ?_
      exact ⟨congrArg Ending.returned HR, hM173.below⟩

def P_umbraref27_Sample (r : (Int × Int × Int) × Bool × Bool × (Int × Int × Int)) : Prop := (InV r.1 ∧ True ∧ True ∧ InV r.2.2.2)
theorem i_umbraref27_Sample (l : Int × (Int × Int × Int) × (Int × Int × Int) × (Int × Int × Int) × (Int × Int × Int)) (at1_ : Int × Int × Int) (n : Int × Int × Int) (draw : Int × Int) (h_l : (InI l.1 ∧ InV l.2.1 ∧ InV l.2.2.1 ∧ InV l.2.2.2.1 ∧ InV l.2.2.2.2)) (h_at1_ : InV at1_) (h_n : InV n) (h_draw : (InU32 draw.1 ∧ InU32 draw.2)) : P_umbraref27_Sample (s_umbraref27_Sample l at1_ n draw) := by
  unfold s_umbraref27_Sample
  exact (lt_P fun r21 h22 => (ite_P (fun c25 => (lt_P fun r28 h29 => (ite_P (fun c174 => (show (InV (0, 0, 0) ∧ True ∧ True ∧ InV (0, 0, 0)) from ⟨⟨(show InI 0 from by unfold InI; omega), (show InI 0 from by unfold InI; omega), (show InI 0 from by unfold InI; omega)⟩, trivial, trivial, ⟨(show InI 0 from by unfold InI; omega), (show InI 0 from by unfold InI; omega), (show InI 0 from by unfold InI; omega)⟩⟩)) (fun c174 => (ite_P (fun c32 => (lt_P fun r33 h34 => (lt_P fun r45 h46 => (lt_P fun r47 h48 => (ite_P (fun c51 => (show (InV (0, 0, 0) ∧ True ∧ True ∧ InV (0, 0, 0)) from ⟨⟨(show InI 0 from by unfold InI; omega), (show InI 0 from by unfold InI; omega), (show InI 0 from by unfold InI; omega)⟩, trivial, trivial, ⟨(show InI 0 from by unfold InI; omega), (show InI 0 from by unfold InI; omega), (show InI 0 from by unfold InI; omega)⟩⟩)) (fun c51 => (ite_P (fun c54 => (lt_P fun x55 h56 => (lt_P fun x57 h58 => (lt_P fun x59 h60 => (lt_P fun r63 h64 => (lt_P fun r70 h71 => (lt_P fun r72 h73 => (lt_P fun r74 h75 => (show (InV (x55, x57, x59) ∧ True ∧ True ∧ InV r74) from ⟨⟨(wr_i64 h56), (wr_i64 h58), (wr_i64 h60)⟩, trivial, trivial, (tr (P := fun r : Int × Int × Int => InV r) h75 (vscale_I r70 r72)).out⟩))))))))) (fun c54 => (lt_P fun r83 h84 => (lt_P fun r85 h86 => (lt_P fun r87 h88 => (show (InV r33 ∧ True ∧ True ∧ InV r87) from ⟨(tr (P := fun r : Int × Int × Int => InV r) h34 (pdir_I h_draw.1)).out, trivial, trivial, (tr (P := fun r : Int × Int × Int => InV r) h88 (vscale_I r83 r85)).out⟩)))))))))))) (fun c32 => (lt_P fun r96 h97 => (lt_P fun r98 h99 => (lt_P fun r108 h109 => (ite_P (fun c112 => (show (InV (0, 0, 0) ∧ True ∧ True ∧ InV (0, 0, 0)) from ⟨⟨(show InI 0 from by unfold InI; omega), (show InI 0 from by unfold InI; omega), (show InI 0 from by unfold InI; omega)⟩, trivial, trivial, ⟨(show InI 0 from by unfold InI; omega), (show InI 0 from by unfold InI; omega), (show InI 0 from by unfold InI; omega)⟩⟩)) (fun c112 => (lt_P fun r118 h119 => (lt_P fun r120 h121 => (ite_P (fun c124 => (show (InV (0, 0, 0) ∧ True ∧ True ∧ InV (0, 0, 0)) from ⟨⟨(show InI 0 from by unfold InI; omega), (show InI 0 from by unfold InI; omega), (show InI 0 from by unfold InI; omega)⟩, trivial, trivial, ⟨(show InI 0 from by unfold InI; omega), (show InI 0 from by unfold InI; omega), (show InI 0 from by unfold InI; omega)⟩⟩)) (fun c124 => (lt_P fun x127 h128 => (lt_P fun r129 h130 => (lt_P fun r133 h134 => (lt_P fun x137 h138 => (ite_P (fun c139 => (lt_P fun x140 h141 => (lt_P fun r142 h143 => (lt_P fun r146 h147 => (lt_P fun r153 h154 => (lt_P fun r155 h156 => (show (InV r98 ∧ True ∧ True ∧ InV r155) from ⟨(tr (P := fun r : Int × Int × Int => InV r) h99 (i_umbraref20_Sub r96 at1_ ((tr (P := fun r : Int × Int × Int => InV r) h97 (i_umbraref27_Point l draw h_l h_draw)).out) h_at1_)).out, trivial, trivial, (tr (P := fun r : Int × Int × Int => InV r) h156 (vscale_I r153 r146)).out⟩))))))) (fun c139 => (lt_P fun r164 h165 => (lt_P fun r166 h167 => (show (InV r98 ∧ True ∧ True ∧ InV r166) from ⟨(tr (P := fun r : Int × Int × Int => InV r) h99 (i_umbraref20_Sub r96 at1_ ((tr (P := fun r : Int × Int × Int => InV r) h97 (i_umbraref27_Point l draw h_l h_draw)).out) h_at1_)).out, trivial, trivial, (tr (P := fun r : Int × Int × Int => InV r) h167 (vscale_I r164 r133)).out⟩)))))))))))))))))))))))) (fun c25 => (show (InV (0, 0, 0) ∧ True ∧ True ∧ InV (0, 0, 0)) from ⟨⟨(show InI 0 from by unfold InI; omega), (show InI 0 from by unfold InI; omega), (show InI 0 from by unfold InI; omega)⟩, trivial, trivial, ⟨(show InI 0 from by unfold InI; omega), (show InI 0 from by unfold InI; omega), (show InI 0 from by unfold InI; omega)⟩⟩))))

end Go.Proofs.Ytjhnkpapbjkbcaa

namespace Go.Proofs.Ytjhnkpapbjkbcaa
open Go.RowKit Go.Sort
set_option linter.unusedVariables false
set_option linter.unusedSimpArgs false

theorem eqv_umbra_api_Lamp {ops : Array Oper} {a : Act} {w : World} {dst : Option Tmp} {xo yo : Operand} {T2 ty : TypeId} {pos : String} {after : Array Edge} {guard : Option (Nat × Bool)} {x y : (Int × Int × Int) × Bool × Bool × (Int × Int × Int)}
    (hw : Region.wanted ⟨dst, .binOp .eql 62 xo yo T2, ty, pos, after, guard⟩ (yielded ops a.tmps) = true) (hx : a.eval xo = .agg #[.int .i64 x.1.1, .int .i64 x.1.2.1, .int .i64 x.1.2.2, .bool x.2.1, .bool x.2.2.1, .int .i64 x.2.2.2.1, .int .i64 x.2.2.2.2.1, .int .i64 x.2.2.2.2.2]) (hy : a.eval yo = .agg #[.int .i64 y.1.1, .int .i64 y.1.2.1, .int .i64 y.1.2.2, .bool y.2.1, .bool y.2.2.1, .int .i64 y.2.2.2.1, .int .i64 y.2.2.2.2.1, .int .i64 y.2.2.2.2.2]) : (Region.wanted ⟨dst, .binOp .eql 62 xo yo T2, ty, pos, after, guard⟩ (yielded ops a.tmps), (execOp a.eval ⟨dst, .binOp .eql 62 xo yo T2, ty, pos, after, guard⟩).run Try.prog w) = (true, .ok (.value (.bool (decide (x = y)))) w) := by
  refine Prod.ext hw ?_
  have hg : Try.prog.eqGuardType Try.prog.depth 62 = false := by kernel_rfl
  have e : decide (x = y) = (x.1.1 == y.1.1 && (x.1.2.1 == y.1.2.1 && (x.1.2.2 == y.1.2.2 && (x.2.1 == y.2.1 && (x.2.2.1 == y.2.2.1 && (x.2.2.2.1 == y.2.2.2.1 && (x.2.2.2.2.1 == y.2.2.2.2.1 && x.2.2.2.2.2 == y.2.2.2.2.2))))))) := by
    rw [Bool.eq_iff_iff]
    simp [Prod.ext_iff, and_assoc]
  show (execOp a.eval ⟨dst, .binOp .eql 62 xo yo T2, ty, pos, after, guard⟩).run Try.prog w = _
  rw [e]
  unfold execOp
  simp only [hx, hy]
  simp [eqGuard, hg, binOp, Op.equal, Op.maxDepth, go_sem, Bool.and_assoc]
  by_cases h0 : x.1.1 = y.1.1 <;> simp only [h0, beq_self_eq_true, Bool.true_and, Bool.false_and, Bool.and_true, beq_eq_false_iff_ne.2, ne_eq, not_false_eq_true] <;> try rfl
  by_cases h1 : x.1.2.1 = y.1.2.1 <;> simp only [h1, beq_self_eq_true, Bool.true_and, Bool.false_and, Bool.and_true, beq_eq_false_iff_ne.2, ne_eq, not_false_eq_true] <;> try rfl
  by_cases h2 : x.1.2.2 = y.1.2.2 <;> simp only [h2, beq_self_eq_true, Bool.true_and, Bool.false_and, Bool.and_true, beq_eq_false_iff_ne.2, ne_eq, not_false_eq_true] <;> try rfl
  by_cases h3 : x.2.1 = y.2.1 <;> simp only [h3, beq_self_eq_true, Bool.true_and, Bool.false_and, Bool.and_true, beq_eq_false_iff_ne.2, ne_eq, not_false_eq_true] <;> try rfl
  by_cases h4 : x.2.2.1 = y.2.2.1 <;> simp only [h4, beq_self_eq_true, Bool.true_and, Bool.false_and, Bool.and_true, beq_eq_false_iff_ne.2, ne_eq, not_false_eq_true] <;> try rfl
  by_cases h5 : x.2.2.2.1 = y.2.2.2.1 <;> simp only [h5, beq_self_eq_true, Bool.true_and, Bool.false_and, Bool.and_true, beq_eq_false_iff_ne.2, ne_eq, not_false_eq_true] <;> try rfl
  by_cases h6 : x.2.2.2.2.1 = y.2.2.2.2.1 <;> simp only [h6, beq_self_eq_true, Bool.true_and, Bool.false_and, Bool.and_true, beq_eq_false_iff_ne.2, ne_eq, not_false_eq_true] <;> try rfl
  by_cases h7 : x.2.2.2.2.2 = y.2.2.2.2.2 <;> simp only [h7, beq_self_eq_true, Bool.true_and, Bool.false_and, Bool.and_true, beq_eq_false_iff_ne.2, ne_eq, not_false_eq_true] <;> try rfl
theorem eqv_umbra_api_Lampn {ops : Array Oper} {a : Act} {w : World} {dst : Option Tmp} {xo yo : Operand} {T2 ty : TypeId} {pos : String} {after : Array Edge} {guard : Option (Nat × Bool)} {x y : (Int × Int × Int) × Bool × Bool × (Int × Int × Int)}
    (hw : Region.wanted ⟨dst, .binOp .neq 62 xo yo T2, ty, pos, after, guard⟩ (yielded ops a.tmps) = true) (hx : a.eval xo = .agg #[.int .i64 x.1.1, .int .i64 x.1.2.1, .int .i64 x.1.2.2, .bool x.2.1, .bool x.2.2.1, .int .i64 x.2.2.2.1, .int .i64 x.2.2.2.2.1, .int .i64 x.2.2.2.2.2]) (hy : a.eval yo = .agg #[.int .i64 y.1.1, .int .i64 y.1.2.1, .int .i64 y.1.2.2, .bool y.2.1, .bool y.2.2.1, .int .i64 y.2.2.2.1, .int .i64 y.2.2.2.2.1, .int .i64 y.2.2.2.2.2]) : (Region.wanted ⟨dst, .binOp .neq 62 xo yo T2, ty, pos, after, guard⟩ (yielded ops a.tmps), (execOp a.eval ⟨dst, .binOp .neq 62 xo yo T2, ty, pos, after, guard⟩).run Try.prog w) = (true, .ok (.value (.bool (!decide (x = y)))) w) := by
  refine Prod.ext hw ?_
  have hg : Try.prog.eqGuardType Try.prog.depth 62 = false := by kernel_rfl
  have e : decide (x = y) = (x.1.1 == y.1.1 && (x.1.2.1 == y.1.2.1 && (x.1.2.2 == y.1.2.2 && (x.2.1 == y.2.1 && (x.2.2.1 == y.2.2.1 && (x.2.2.2.1 == y.2.2.2.1 && (x.2.2.2.2.1 == y.2.2.2.2.1 && x.2.2.2.2.2 == y.2.2.2.2.2))))))) := by
    rw [Bool.eq_iff_iff]
    simp [Prod.ext_iff, and_assoc]
  show (execOp a.eval ⟨dst, .binOp .neq 62 xo yo T2, ty, pos, after, guard⟩).run Try.prog w = _
  rw [e]
  unfold execOp
  simp only [hx, hy]
  simp [eqGuard, hg, binOp, Op.equal, Op.maxDepth, go_sem, Bool.and_assoc]
  by_cases h0 : x.1.1 = y.1.1 <;> simp only [h0, beq_self_eq_true, Bool.true_and, Bool.false_and, Bool.and_true, beq_eq_false_iff_ne.2, ne_eq, not_false_eq_true] <;> try rfl
  by_cases h1 : x.1.2.1 = y.1.2.1 <;> simp only [h1, beq_self_eq_true, Bool.true_and, Bool.false_and, Bool.and_true, beq_eq_false_iff_ne.2, ne_eq, not_false_eq_true] <;> try rfl
  by_cases h2 : x.1.2.2 = y.1.2.2 <;> simp only [h2, beq_self_eq_true, Bool.true_and, Bool.false_and, Bool.and_true, beq_eq_false_iff_ne.2, ne_eq, not_false_eq_true] <;> try rfl
  by_cases h3 : x.2.1 = y.2.1 <;> simp only [h3, beq_self_eq_true, Bool.true_and, Bool.false_and, Bool.and_true, beq_eq_false_iff_ne.2, ne_eq, not_false_eq_true] <;> try rfl
  by_cases h4 : x.2.2.1 = y.2.2.1 <;> simp only [h4, beq_self_eq_true, Bool.true_and, Bool.false_and, Bool.and_true, beq_eq_false_iff_ne.2, ne_eq, not_false_eq_true] <;> try rfl
  by_cases h5 : x.2.2.2.1 = y.2.2.2.1 <;> simp only [h5, beq_self_eq_true, Bool.true_and, Bool.false_and, Bool.and_true, beq_eq_false_iff_ne.2, ne_eq, not_false_eq_true] <;> try rfl
  by_cases h6 : x.2.2.2.2.1 = y.2.2.2.2.1 <;> simp only [h6, beq_self_eq_true, Bool.true_and, Bool.false_and, Bool.and_true, beq_eq_false_iff_ne.2, ne_eq, not_false_eq_true] <;> try rfl
  by_cases h7 : x.2.2.2.2.2 = y.2.2.2.2.2 <;> simp only [h7, beq_self_eq_true, Bool.true_and, Bool.false_and, Bool.and_true, beq_eq_false_iff_ne.2, ne_eq, not_false_eq_true] <;> try rfl

end Go.Proofs.Ytjhnkpapbjkbcaa
