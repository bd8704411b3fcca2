/- Walks: umbraref14.Same, texel.Pick, texel.Surface, umbraref25.Surface. -/
import Derived.Test.YtognbeejobfpfaaMT
import Derived.Test.YtognbeejobfpfaaL25o
namespace Go.Proofs.Ytognbeejobfpfaa
open Go.RowKit Go.Sort
set_option linter.unusedVariables false
set_option linter.unusedSimpArgs false

def e_umbraref14_Same (r : Bool) : Value := .bool r
def L4_umbraref14_Same (side : Int) (l : List (Int × Int × Int)) (side2 : Int) (l2 : List (Int × Int × Int)) : Nat → (Int) → Bool
  | 0, _ => default
  | f9 + 1, k =>
    if k < (List.length l : Int) then
      if (((gd zero3 l k).1, (gd zero3 l k).2.1, (gd zero3 l k).2.2) : Int × Int × Int) = ((gd zero3 l2 k).1, (gd zero3 l2 k).2.1, (gd zero3 l2 k).2.2) then
        lt (IntKind.i64.wrap (k + 1)) fun x28 =>
        L4_umbraref14_Same side l side2 l2 f9 x28
      else
        false
    else
      true
def s_umbraref14_Same (side : Int) (l : List (Int × Int × Int)) (side2 : Int) (l2 : List (Int × Int × Int)) : Bool :=
  if side = side2 then
    if (List.length l : Int) = (List.length l2 : Int) then
      L4_umbraref14_Same side l side2 l2 (Int.toNat ((List.length l : Int) - 0) + 1) 0
    else
      false
  else
    false
set_option maxRecDepth 100000 in
set_option maxHeartbeats 4000000 in
theorem w_umbraref14_Same (side : Int) (l : List (Int × Int × Int)) (side2 : Int) (l2 : List (Int × Int × Int)) (w : World) (A : Option Addr) (cap : Nat) (A2 : Option Addr) (cap2 : Nat) (hR : Rd v3c 3 w A l) (hR2 : Rd v3c 3 w A2 l2) (hl : (List.length l : Int) ≤ 1000) : Calls Try.prog 26 #[.agg #[.int .i64 side, .slice A (List.length l) cap], .agg #[.int .i64 side2, .slice A2 (List.length l2) cap2]] w (Ret (e_umbraref14_Same (s_umbraref14_Same side l side2 l2)) w) := by
  obtain ⟨R, HR⟩ : ∃ R, e_umbraref14_Same (s_umbraref14_Same side l side2 l2) = R := ⟨_, rfl⟩
  rw [HR]
  unfold s_umbraref14_Same at HR
  have hM0 := St.start w
  refine calls_run Try.func26 rfl ?_
  refine R_seq (R_region (S_fresh none #[.int .i64 side, .slice A (List.length l) cap] 24 hM0 (by kernel_rfl) (fun g1 w2 hM3 => S_fresh none #[.int .i64 side2, .slice A2 (List.length l2) cap2] 24 hM3 (by kernel_rfl) (fun g4 w5 hM6 => S_val (.bool false) (by kernel_rfl) (S_nil (R_seq (R_seq (R_region (S_val (.pointer (some ⟨g1, 0, none⟩)) (by kernel_rfl) (S_load 1 0 (.int .i64 side) hM6 (by kernel_rfl) (S_val (.pointer (some ⟨g4, 0, none⟩)) (by kernel_rfl) (?_))))))))))))
  refine S_load 0 0 (.int .i64 side2) hM6 (by kernel_rfl) (?_)
  refine S_decn (side = side2) (by kernel_rfl) (fun c7 => ?_) (fun c7 => ?_)
  · refine S_val (.bool true) (by kernel_rfl) (S_skip (by kernel_rfl) (S_skip (by kernel_rfl) (S_skip (by kernel_rfl) (S_skip (by kernel_rfl) (S_skip (by kernel_rfl) (S_skip (by kernel_rfl) (S_skip (by kernel_rfl) (S_val (.bool true) (by kernel_rfl) (S_nil (R_yes (by kernel_rfl) (R_seq (?_))))))))))))
    have HR := hr_neg HR c7
    refine R_region (S_val (.bool false) (by kernel_rfl) (S_nil (?_)))
    refine R_ret hM6 rfl (.cons (.tmp _ (.bool false) (by kernel_rfl)) .nil) rfl ?_
    exact ⟨congrArg Ending.returned HR, hM6.below⟩
  · refine S_val (.bool false) (by kernel_rfl) (S_val (.pointer (some ⟨g1, 1, none⟩)) (by kernel_rfl) (S_load 1 1 (.slice A (List.length l) cap) hM6 (by kernel_rfl) (S_val (.int .i64 (List.length l : Int)) (by kernel_rfl) (S_val (.pointer (some ⟨g4, 1, none⟩)) (by kernel_rfl) (S_load 0 1 (.slice A2 (List.length l2) cap2) hM6 (by kernel_rfl) (S_val (.int .i64 (List.length l2 : Int)) (by kernel_rfl) (?_)))))))
    have HR := hr_pos HR c7
    refine S_decn ((List.length l : Int) = (List.length l2 : Int)) (by kernel_rfl) (fun c8 => ?_) (fun c8 => ?_)
    · refine S_val (.bool true) (by kernel_rfl) (S_nil (R_yes (by kernel_rfl) (R_seq (R_region (S_val (.bool false) (by kernel_rfl) (S_nil (?_)))))))
      have HR := hr_neg HR c8
      refine R_ret hM6 rfl (.cons (.tmp _ (.bool false) (by kernel_rfl)) .nil) rfl ?_
      exact ⟨congrArg Ending.returned HR, hM6.below⟩
    · refine S_val (.bool false) (by kernel_rfl) (S_nil (R_no (by kernel_rfl) (R_skip (R_seq (R_seq (R_region (S_val (.int .i64 0) (by kernel_rfl) (S_nil (R_block (?_))))))))))
      have HR := hr_pos HR c8
      refine R_fuel (fun m10 a11 w12 => ∃ (k : Int) (u1 : List Value), a11 = { tmps := #[.agg #[.int .i64 side, .slice A (List.length l) cap], .agg #[.int .i64 side2, .slice A2 (List.length l2) cap2], .pointer (some ⟨g1, 0, none⟩), .pointer (some ⟨g4, 0, none⟩), (gv u1 0), .int .i64 k, .pointer (some ⟨g1, 0, none⟩), .int .i64 side, .pointer (some ⟨g4, 0, none⟩), .int .i64 side2, .bool false, .bool false, .pointer (some ⟨g1, 1, none⟩), .slice A (List.length l) cap, .int .i64 (List.length l : Int), .pointer (some ⟨g4, 1, none⟩), .slice A2 (List.length l2) cap2, .int .i64 (List.length l2 : Int), .bool false, .bool false, (gv u1 1), (gv u1 2), (gv u1 3), (gv u1 4), (gv u1 5), (gv u1 6), (gv u1 7), (gv u1 8), (gv u1 9), (gv u1 10), (gv u1 11), (gv u1 12), (gv u1 13), (gv u1 14), (gv u1 15), (gv u1 16), (gv u1 17), (gv u1 18)], defers := [] } ∧ St w [⟨g4, #[.int .i64 side2, .slice A2 (List.length l2) cap2], 24, (0, 0), true⟩, ⟨g1, #[.int .i64 side, .slice A (List.length l) cap], 24, (0, 0), true⟩] w12 ∧ (List.length l : Int) - k < (m10 : Int) ∧ ((0 ≤ k ∧ k ≤ (List.length l : Int))) ∧ e_umbraref14_Same (L4_umbraref14_Same side l side2 l2 m10 k) = R) (Int.toNat ((List.length l : Int) - 0) + 1) ⟨0, [.bool false, undef, undef, undef, undef, undef, undef, undef, undef, undef, undef, undef, undef, undef, undef, undef, undef, undef, undef], by kernel_rfl, hM6, by omega, (by omega), HR⟩ ?_
      rintro m10 a11 w12 ⟨k, u1, rfl, hM13, hmu1, hk, HR⟩ hnext14
      obtain ⟨f9, rfl⟩ : ∃ f, m10 = f + 1 := ⟨m10 - 1, by omega⟩
      rw [L4_umbraref14_Same] at HR
      refine R_seq (R_seq (R_region (S_val (.int .i64 k) (by kernel_rfl) (S_val (.pointer (some ⟨g1, 1, none⟩)) (by kernel_rfl) (S_load 1 1 (.slice A (List.length l) cap) hM13 (by kernel_rfl) (S_val (.int .i64 (List.length l : Int)) (by kernel_rfl) (?_)))))))
      refine S_dec (k < (List.length l : Int)) (by kernel_rfl) (fun c15 => ?_) (fun c15 => ?_)
      · refine S_nil (R_yes (by kernel_rfl) (R_skip (R_seq (R_block (R_seq (R_drawF 11 (by kernel_rfl) (fun F16 U17 hL18 => F_val (.pointer (some ⟨g1, 1, none⟩)) (fun _ => by kernel_rfl) (F_load 1 1 (.slice A (List.length l) cap) hM13 (by kernel_rfl) (F_val (.int .i64 k) (fun _ => by kernel_rfl) (?_))))))))))
        have HR := hr_pos HR c15
        obtain ⟨b19, off20, rfl⟩ := Rd.op (i := k) hR (by omega)
        refine F_idx 36 3 b19 off20 (List.length l) cap k (by omega) (by kernel_rfl) (F_loadX v3c 3 zero3 k 0 b19 off20 (.agg #[.int .i64 ((gd zero3 l k).1), .int .i64 ((gd zero3 l k).2.1), .int .i64 ((gd zero3 l k).2.2)]) hM13 hR v3c_len (by omega) (by kernel_rfl) (F_val (.pointer (some ⟨g4, 1, none⟩)) (fun _ => by kernel_rfl) (F_load 0 1 (.slice A2 (List.length l2) cap2) hM13 (by kernel_rfl) (F_val (.int .i64 k) (fun _ => by kernel_rfl) (?_)))))
        obtain ⟨b21, off22, rfl⟩ := Rd.op (i := k) hR2 (by omega)
        refine F_idx 36 3 b21 off22 (List.length l2) cap2 k (by omega) (by kernel_rfl) (F_loadX v3c 3 zero3 k 0 b21 off22 (.agg #[.int .i64 ((gd zero3 l2 k).1), .int .i64 ((gd zero3 l2 k).2.1), .int .i64 ((gd zero3 l2 k).2.2)]) hM13 hR2 v3c_len (by omega) (by kernel_rfl) (?_))
        refine F_decn ((((gd zero3 l k).1, (gd zero3 l k).2.1, (gd zero3 l k).2.2) : Int × Int × Int) = ((gd zero3 l2 k).1, (gd zero3 l2 k).2.1, (gd zero3 l2 k).2.2)) (fun _ => eqv__3_intn (x := ((gd zero3 l k).1, (gd zero3 l k).2.1, (gd zero3 l k).2.2)) (y := ((gd zero3 l2 k).1, (gd zero3 l2 k).2.1, (gd zero3 l2 k).2.2)) (by kernel_rfl) (by kernel_rfl) (by kernel_rfl)) (fun c23 => ?_) (fun c23 => ?_)
        · refine F_nil hM13 hL18 (fun w24 hM25 => S_nil (R_yes (by kernel_rfl) (R_seq (R_region (S_val (.bool false) (by kernel_rfl) (S_nil (?_)))))))
          have HR := hr_neg HR c23
          refine R_ret hM25 rfl (.cons (.tmp _ (.bool false) (by kernel_rfl)) .nil) rfl ?_
          exact ⟨congrArg Ending.returned HR, hM25.below⟩
        · refine F_nil hM13 hL18 (fun w26 hM27 => S_nil (R_no (by kernel_rfl) (R_skip (R_inBlock (R_region (S_val (.int .i64 k) (by kernel_rfl) (S_int (IntKind.i64.wrap (k + 1)) .i64 (by kernel_rfl) (fun x28 h29 => S_val (.int .i64 x28) (by kernel_rfl) (S_nil (?_))))))))))
          have HR := hr_pos HR c23
          have HR := hr_lt HR h29
          have hw_x28 := h29; rw [wrI] at hw_x28; unfold wrap64 at hw_x28
          exact hnext14 f9 _ _ (Nat.lt_succ_self _) ⟨x28, [(gv u1 0), .int .i64 k, .pointer (some ⟨g1, 1, none⟩), .slice (some ⟨b19, off20, none⟩) (List.length l) cap, .int .i64 (List.length l : Int), .bool true, .int .i64 k, .int .i64 x28, .pointer (some ⟨g1, 1, none⟩), .slice (some ⟨b19, off20, none⟩) (List.length l) cap, .int .i64 k, .pointer (some ⟨b19, off20 + Int.toNat k * 3 + 0, none⟩), .agg #[.int .i64 ((gd zero3 l k).1), .int .i64 ((gd zero3 l k).2.1), .int .i64 ((gd zero3 l k).2.2)], .pointer (some ⟨g4, 1, none⟩), .slice (some ⟨b21, off22, none⟩) (List.length l2) cap2, .int .i64 k, .pointer (some ⟨b21, off22 + Int.toNat k * 3 + 0, none⟩), .agg #[.int .i64 ((gd zero3 l2 k).1), .int .i64 ((gd zero3 l2 k).2.1), .int .i64 ((gd zero3 l2 k).2.2)], .bool false], by kernel_rfl, hM27, by omega, (by omega), HR⟩
      · refine S_nil (R_no (by kernel_rfl) (R_exit rfl (R_seq (R_region (S_val (.bool true) (by kernel_rfl) (S_nil (?_)))))))
        have HR := hr_neg HR c15
        refine R_ret hM13 rfl (.cons (.tmp _ (.bool true) (by kernel_rfl)) .nil) rfl ?_
        exact ⟨congrArg Ending.returned HR, hM13.below⟩

theorem ixk {b x y z : Int} {k : Nat} (hx : gmax b 0 = x) (hz : gmin x y = z) (hy : y + 1 = (k : Int) ∧ 0 ≤ y) : 0 ≤ z ∧ z < (k : Int) := by
  rw [gmax_eq] at hx
  rw [gmin_eq] at hz
  omega

def e_texel_Pick_0 (r : (Int × Value) × Bool) : Value := .tuple #[.agg #[.int .i64 r.1.1, r.1.2], .bool r.2]
def s_texel_Pick_0 (bounce : Int) : (Int × Value) × Bool :=
  ((0, .slice none 0 0), false)
set_option maxRecDepth 100000 in
set_option maxHeartbeats 4000000 in
theorem w_texel_Pick_0 (bounce : Int) (A : Option Addr) (cap : Nat) (w : World) : Calls Try.prog 25 #[.slice A 0 cap, .int .i64 bounce] w (Ret (e_texel_Pick_0 (s_texel_Pick_0 bounce)) w) := by
  obtain ⟨R, HR⟩ : ∃ R, e_texel_Pick_0 (s_texel_Pick_0 bounce) = R := ⟨_, rfl⟩
  rw [HR]
  unfold s_texel_Pick_0 at HR
  have hM0 := St.start w
  refine calls_run Try.func25 rfl ?_
  refine R_seq (R_region (S_fresh none #[.int .i64 0, .slice none 0 0] 24 hM0 (by kernel_rfl) (fun g1 w2 hM3 => S_val (.bool false) (by kernel_rfl) (S_nil (R_seq (R_seq (R_region (S_val (.slice A 0 cap) (by kernel_rfl) (S_val (.int .i64 0) (by kernel_rfl) (S_val (.bool true) (by kernel_rfl) (S_nil (?_))))))))))))
  refine R_yes (by kernel_rfl) (R_seq (R_region (S_val (.agg #[.int .i64 0, .slice none 0 0]) (by kernel_rfl) (S_store 0 0 #[.int .i64 0, .slice none 0 0] hM3 (by kernel_rfl) (fun w4 hM5 => S_val (.bool false) (by kernel_rfl) (S_nil (?_)))))))
  refine R_ret hM5 rfl (.cons (.cell _ _ 0 0 (.agg #[.int .i64 0, .slice none 0 0]) (by kernel_rfl)) (.cons (.tmp _ (.bool false) (by kernel_rfl)) .nil)) rfl ?_
  exact ⟨congrArg Ending.returned HR, hM5.below⟩

def e_texel_Pick_1 (r : (Int × Value) × Bool) : Value := .tuple #[.agg #[.int .i64 r.1.1, r.1.2], .bool r.2]
def s_texel_Pick_1 (L : List (Tx)) (bounce : Int) : (Int × Value) × Bool :=
  if (List.length L : Int) = 0 then
    ((0, .slice none 0 0), false)
  else
    lt (gmax bounce 0) fun x7 =>
    lt (IntKind.i64.wrap ((List.length L : Int) - 1)) fun x9 =>
    lt (gmin x7 x9) fun x11 =>
    (((gd tx0 L x11).1, .slice ((gd tx0 L x11).2.1) (List.length ((gd tx0 L x11).2.2.2)) ((gd tx0 L x11).2.2.1)), true)
set_option maxRecDepth 100000 in
set_option maxHeartbeats 4000000 in
theorem w_texel_Pick_1 (L : List (Tx)) (bounce : Int) (w : World) (A : Option Addr) (cap : Nat) (hR : Rd tE 2 w A L) (hT : ∀ x ∈ L, TxS w x) (hL : 0 < (List.length L : Int)) (hm : (List.length L : Int) ≤ 1000) : Calls Try.prog 25 #[.slice A (List.length L) cap, .int .i64 bounce] w (Ret (e_texel_Pick_1 (s_texel_Pick_1 L bounce)) w) := by
  obtain ⟨R, HR⟩ : ∃ R, e_texel_Pick_1 (s_texel_Pick_1 L bounce) = R := ⟨_, rfl⟩
  rw [HR]
  unfold s_texel_Pick_1 at HR
  have hM0 := St.start w
  refine calls_run Try.func25 rfl ?_
  refine R_seq (R_region (S_fresh none #[.int .i64 0, .slice none 0 0] 24 hM0 (by kernel_rfl) (fun g1 w2 hM3 => S_val (.bool false) (by kernel_rfl) (S_nil (R_seq (R_seq (R_region (S_val (.slice A (List.length L) cap) (by kernel_rfl) (S_val (.int .i64 (List.length L : Int)) (by kernel_rfl) (?_))))))))))
  refine S_dec ((List.length L : Int) = 0) (by kernel_rfl) (fun c4 => ?_) (fun c4 => ?_)
  · refine S_nil (R_yes (by kernel_rfl) (R_seq (R_region (S_val (.agg #[.int .i64 0, .slice none 0 0]) (by kernel_rfl) (S_store 0 0 #[.int .i64 0, .slice none 0 0] hM3 (by kernel_rfl) (fun w5 hM6 => S_val (.bool false) (by kernel_rfl) (S_nil (?_))))))))
    have HR := hr_pos HR c4
    refine R_ret hM6 rfl (.cons (.cell _ _ 0 0 (.agg #[.int .i64 0, .slice none 0 0]) (by kernel_rfl)) (.cons (.tmp _ (.bool false) (by kernel_rfl)) .nil)) rfl ?_
    exact ⟨congrArg Ending.returned HR, hM6.below⟩
  · refine S_nil (R_no (by kernel_rfl) (R_skip (R_seq (R_region (S_val (.slice A (List.length L) cap) (by kernel_rfl) (S_val (.int .i64 bounce) (by kernel_rfl) (S_int (gmax bounce 0) .i64 (by kernel_rfl) (fun x7 h8 => S_val (.slice A (List.length L) cap) (by kernel_rfl) (S_val (.int .i64 (List.length L : Int)) (by kernel_rfl) (S_int (IntKind.i64.wrap ((List.length L : Int) - 1)) .i64 (by kernel_rfl) (fun x9 h10 => S_int (gmin x7 x9) .i64 (by kernel_rfl) (fun x11 h12 => ?_))))))))))))
    have HR := hr_neg HR c4
    have HR := hr_lt HR h8
    have HR := hr_lt HR h10
    have HR := hr_lt HR h12
    obtain ⟨b13, off14, rfl⟩ := Rd.op (i := x11) hR (lvl_ix hL hm h8 h10 h12).1
    refine S_idx 24 2 b13 off14 (List.length L) cap x11 (lvl_ix hL hm h8 h10 h12).1 (by kernel_rfl) (S_loadX tE 2 tx0 x11 0 b13 off14 (.agg #[.int .i64 ((gd tx0 L x11).1), .slice ((gd tx0 L x11).2.1) (List.length ((gd tx0 L x11).2.2.2)) ((gd tx0 L x11).2.2.1)]) hM3 hR tE_len (lvl_ix hL hm h8 h10 h12).1 (by kernel_rfl) (S_store 0 0 #[.int .i64 ((gd tx0 L x11).1), .slice ((gd tx0 L x11).2.1) (List.length ((gd tx0 L x11).2.2.2)) ((gd tx0 L x11).2.2.1)] hM3 (by kernel_rfl) (fun w15 hM16 => S_val (.bool true) (by kernel_rfl) (S_nil (?_)))))
    refine R_ret hM16 rfl (.cons (.cell _ _ 0 0 (.agg #[.int .i64 ((gd tx0 L x11).1), .slice ((gd tx0 L x11).2.1) (List.length ((gd tx0 L x11).2.2.2)) ((gd tx0 L x11).2.2.1)]) (by kernel_rfl)) (.cons (.tmp _ (.bool true) (by kernel_rfl)) .nil)) rfl ?_
    exact ⟨congrArg Ending.returned HR, hM16.below⟩

theorem c_Pick1 (L : List Tx) (b : Int) (w : World) (A : Option Addr) (cap : Nat) (hR : Rd tE 2 w A L) (hT : ∀ x ∈ L, TxS w x) (hL : 0 < (List.length L : Int)) (hm : (List.length L : Int) ≤ 1000) :
    Calls Try.prog 25 #[.slice A (List.length L) cap, .int .i64 b] w (Ret ((fun r : Tx => .tuple #[.agg #[.int .i64 r.1, .slice r.2.1 (List.length r.2.2.2) r.2.2.1], .bool true]) (lvl L b)) w) := by
  have hw := w_texel_Pick_1 L b w A cap hR hT hL hm
  unfold s_texel_Pick_1 at hw
  simp only [lt] at hw
  rw [if_neg (by omega)] at hw
  obtain ⟨y, hy⟩ : ∃ y, IntKind.i64.wrap ((List.length L : Int) - 1) = y := ⟨_, rfl⟩
  have e := (lvl_ix hL hm (b := b) rfl hy rfl).2
  rw [hy] at hw
  rw [e] at hw
  exact hw
theorem lvl_ok {w : World} {L : List Tx} (hT : ∀ x ∈ L, TxS w x) (hL : 0 < (List.length L : Int)) {b : Int} {r : Tx} (h : lvl L b = r) : TxS w r := h ▸ hT _ (lvl_mem hL b)
theorem gd1 {L : List Tx} (hL : 0 < (List.length L : Int)) (hm : (List.length L : Int) ≤ 1000) {b x y z : Int} (hx : gmax b 0 = x) (hy : IntKind.i64.wrap ((List.length L : Int) - 1) = y) (hz : gmin x y = z) : gd tx0 L z = lvl L b := by rw [(lvl_ix hL hm hx hy hz).2]; rfl
theorem Sample_I (side : Int) (l : List T3) (u v : Int) : InV (s_texel_Sample side l u v).1 := by
  unfold s_texel_Sample
  simp only [lt]
  (repeat' split) <;> first | exact zero3_I | exact ⟨wr_i64 rfl, wr_i64 rfl, wr_i64 rfl⟩

theorem Sample_IR (side : Int) (l : List T3) (u v : Int) : InV (s_texel_Sample side l u v).1 ∧ InI (s_texel_Sample side l u v).2 := ⟨Sample_I side l u v, by
  unfold s_texel_Sample
  simp only [lt]
  (repeat' split)
  all_goals first
    | (rcases Check_or side l with h | h <;> rw [h] <;> (show InI _) <;> unfold InI <;> omega)
    | (show InI _; unfold InI; omega)⟩
theorem rSample_IR (side : Int) (l : List T3) (hl : (List.length l : Int) ≤ 1000) (u v : Int) : InV (s_umbraref25_Sample side l u v).1 ∧ InI (s_umbraref25_Sample side l u v).2 := by rw [← sample_eq side l hl u v]; exact Sample_IR side l u v

def e_texel_Surface_0 (r : Int × Int × Int) : Value := .agg #[.int .i64 r.1, .int .i64 r.2.1, .int .i64 r.2.2]
def s_texel_Surface_0 (color : Int × Int × Int) (uv : (Int × Int) × (Int × Int) × (Int × Int)) (m : Int × Int × Int × Int) (bounce : Int) : Int × Int × Int :=
  lt (s_texel_Color color 65535) fun r13 =>
  lt (()) fun r22 =>
  r13
set_option maxRecDepth 100000 in
set_option maxHeartbeats 4000000 in
theorem w_texel_Surface_0 (color : Int × Int × Int) (uv : (Int × Int) × (Int × Int) × (Int × Int)) (m : Int × Int × Int × Int) (bounce : Int) (h_color : InV color) (h_uv : ((InI uv.1.1 ∧ InI uv.1.2) ∧ (InI uv.2.1.1 ∧ InI uv.2.1.2) ∧ (InI uv.2.2.1 ∧ InI uv.2.2.2))) (h_m : InM m) (h_bounce : InI bounce) (A : Option Addr) (cap : Nat) (w : World) : Calls Try.prog 27 #[.agg #[.int .i64 color.1, .int .i64 color.2.1, .int .i64 color.2.2], .slice A 0 cap, .agg #[.int .i64 uv.1.1, .int .i64 uv.1.2, .int .i64 uv.2.1.1, .int .i64 uv.2.1.2, .int .i64 uv.2.2.1, .int .i64 uv.2.2.2], .agg #[.int .i64 m.1, .int .i64 m.2.1, .int .i64 m.2.2.1, .int .i64 m.2.2.2], .int .i64 bounce] w (Ret (e_texel_Surface_0 (s_texel_Surface_0 color uv m bounce)) w) := by
  obtain ⟨R, HR⟩ : ∃ R, e_texel_Surface_0 (s_texel_Surface_0 color uv m bounce) = R := ⟨_, rfl⟩
  rw [HR]
  unfold s_texel_Surface_0 at HR
  have hM0 := St.start w
  refine calls_run Try.func27 rfl ?_
  refine R_seq (R_region (S_fresh none #[.int .i64 color.1, .int .i64 color.2.1, .int .i64 color.2.2] 36 hM0 (by kernel_rfl) (fun g1 w2 hM3 => S_fresh none #[.int .i64 uv.1.1, .int .i64 uv.1.2, .int .i64 uv.2.1.1, .int .i64 uv.2.1.2, .int .i64 uv.2.2.1, .int .i64 uv.2.2.2] 51 hM3 (by kernel_rfl) (fun g4 w5 hM6 => S_fresh none #[.int .i64 m.1, .int .i64 m.2.1, .int .i64 m.2.2.1, .int .i64 m.2.2.2] 50 hM6 (by kernel_rfl) (fun g7 w8 hM9 => S_fresh none #[.int .i64 0, .int .i64 0, .int .i64 0] 29 hM9 (by kernel_rfl) (fun g10 w11 hM12 => S_nil (R_seq (R_region (S_load 3 0 (.agg #[.int .i64 color.1, .int .i64 color.2.1, .int .i64 color.2.2]) hM12 (by kernel_rfl) (S_call (s_texel_Color color 65535) (fun r : Int × Int × Int => .agg #[.int .i64 r.1, .int .i64 r.2.1, .int .i64 r.2.2]) hM12 (w_texel_Color color 65535 h_color (show InI 65535 from by unfold InI; omega) w11) (by kernel_rfl) (fun r13 h14 w15 hM16 => S_fresh none #[.int .i64 0, .int .i64 0, .int .i64 0] 29 hM16 (by kernel_rfl) (fun g17 w18 hM19 => ?_))))))))))))
  have HR := hr_lt HR h14
  refine S_store 0 0 #[.int .i64 r13.1, .int .i64 r13.2.1, .int .i64 r13.2.2] hM19 (by kernel_rfl) (fun w20 hM21 => S_nil (R_seq (R_region (S_val (.slice A 0 cap) (by kernel_rfl) (S_val (.int .i64 bounce) (by kernel_rfl) (S_call (()) (fun r : Unit => .tuple #[.agg #[.int .i64 0, .slice none 0 0], .bool false]) hM21 (w_texel_Pick_0 bounce A cap w20) (by kernel_rfl) (fun r22 h23 w24 hM25 => S_val (.tuple #[.agg #[.int .i64 0, .slice none 0 0], .bool false]) (by kernel_rfl) (S_val (.agg #[.int .i64 0, .slice none 0 0]) (by kernel_rfl) (S_val (.bool false) (by kernel_rfl) (S_fresh none #[.int .i64 0, .slice none 0 0] 24 hM25 (by kernel_rfl) (fun g26 w27 hM28 => S_store 0 0 #[.int .i64 0, .slice none 0 0] hM28 (by kernel_rfl) (fun w29 hM30 => ?_))))))))))))
  have HR := hr_lt HR h23
  refine S_val (.bool false) (by kernel_rfl) (S_nil (R_seq (R_seq (R_region (S_val (.bool false) (by kernel_rfl) (S_val (.bool true) (by kernel_rfl) (S_nil (R_yes (by kernel_rfl) (R_seq (R_region (S_load 1 0 (.agg #[.int .i64 r13.1, .int .i64 r13.2.1, .int .i64 r13.2.2]) hM30 (by kernel_rfl) (?_))))))))))))
  refine S_store 2 0 #[.int .i64 r13.1, .int .i64 r13.2.1, .int .i64 r13.2.2] hM30 (by kernel_rfl) (fun w31 hM32 => S_nil (?_))
  refine R_ret hM32 rfl (.cons (.cell _ _ 2 0 (.agg #[.int .i64 r13.1, .int .i64 r13.2.1, .int .i64 r13.2.2]) (by kernel_rfl)) .nil) rfl ?_
  exact ⟨congrArg Ending.returned HR, hM32.below⟩

def e_texel_Surface_1 (r : Int × Int × Int) : Value := .agg #[.int .i64 r.1, .int .i64 r.2.1, .int .i64 r.2.2]
def s_texel_Surface_1 (L : List (Tx)) (color : Int × Int × Int) (uv : (Int × Int) × (Int × Int) × (Int × Int)) (m : Int × Int × Int × Int) (bounce : Int) : Int × Int × Int :=
  lt (s_texel_Color color 65535) fun r13 =>
  lt (lvl L bounce) fun r22 =>
  lt (s_texel_Bary m uv) fun r31 =>
  lt (gmax r31.1 0) fun x35 =>
  lt (gmin x35 65535) fun x37 =>
  lt (gmax r31.2 0) fun x39 =>
  lt (gmin x39 65535) fun x41 =>
  lt (s_texel_Sample r22.1 r22.2.2.2 x37 x41) fun r43 =>
  if r43.2 = 0 then
    lt (mulT [r13, r43.1]) fun r58 =>
    r58
  else
    r13
set_option maxRecDepth 100000 in
set_option maxHeartbeats 4000000 in
theorem w_texel_Surface_1 (L : List (Tx)) (color : Int × Int × Int) (uv : (Int × Int) × (Int × Int) × (Int × Int)) (m : Int × Int × Int × Int) (bounce : Int) (h_color : InV color) (h_uv : ((InI uv.1.1 ∧ InI uv.1.2) ∧ (InI uv.2.1.1 ∧ InI uv.2.1.2) ∧ (InI uv.2.2.1 ∧ InI uv.2.2.2))) (h_m : InM m) (h_bounce : InI bounce) (w : World) (A : Option Addr) (cap : Nat) (hR : Rd tE 2 w A L) (hT : ∀ x ∈ L, TxS w x) (hL : 0 < (List.length L : Int)) (hm : (List.length L : Int) ≤ 1000) : Calls Try.prog 27 #[.agg #[.int .i64 color.1, .int .i64 color.2.1, .int .i64 color.2.2], .slice A (List.length L) cap, .agg #[.int .i64 uv.1.1, .int .i64 uv.1.2, .int .i64 uv.2.1.1, .int .i64 uv.2.1.2, .int .i64 uv.2.2.1, .int .i64 uv.2.2.2], .agg #[.int .i64 m.1, .int .i64 m.2.1, .int .i64 m.2.2.1, .int .i64 m.2.2.2], .int .i64 bounce] w (Ret (e_texel_Surface_1 (s_texel_Surface_1 L color uv m bounce)) w) := by
  obtain ⟨R, HR⟩ : ∃ R, e_texel_Surface_1 (s_texel_Surface_1 L color uv m bounce) = R := ⟨_, rfl⟩
  rw [HR]
  unfold s_texel_Surface_1 at HR
  have hM0 := St.start w
  refine calls_run Try.func27 rfl ?_
  refine R_seq (R_region (S_fresh none #[.int .i64 color.1, .int .i64 color.2.1, .int .i64 color.2.2] 36 hM0 (by kernel_rfl) (fun g1 w2 hM3 => S_fresh none #[.int .i64 uv.1.1, .int .i64 uv.1.2, .int .i64 uv.2.1.1, .int .i64 uv.2.1.2, .int .i64 uv.2.2.1, .int .i64 uv.2.2.2] 51 hM3 (by kernel_rfl) (fun g4 w5 hM6 => S_fresh none #[.int .i64 m.1, .int .i64 m.2.1, .int .i64 m.2.2.1, .int .i64 m.2.2.2] 50 hM6 (by kernel_rfl) (fun g7 w8 hM9 => S_fresh none #[.int .i64 0, .int .i64 0, .int .i64 0] 29 hM9 (by kernel_rfl) (fun g10 w11 hM12 => S_nil (R_seq (R_region (S_load 3 0 (.agg #[.int .i64 color.1, .int .i64 color.2.1, .int .i64 color.2.2]) hM12 (by kernel_rfl) (S_call (s_texel_Color color 65535) (fun r : Int × Int × Int => .agg #[.int .i64 r.1, .int .i64 r.2.1, .int .i64 r.2.2]) hM12 (w_texel_Color color 65535 h_color (show InI 65535 from by unfold InI; omega) w11) (by kernel_rfl) (fun r13 h14 w15 hM16 => S_fresh none #[.int .i64 0, .int .i64 0, .int .i64 0] 29 hM16 (by kernel_rfl) (fun g17 w18 hM19 => ?_))))))))))))
  have HR := hr_lt HR h14
  refine S_store 0 0 #[.int .i64 r13.1, .int .i64 r13.2.1, .int .i64 r13.2.2] hM19 (by kernel_rfl) (fun w20 hM21 => S_nil (R_seq (R_region (S_val (.slice A (List.length L) cap) (by kernel_rfl) (S_val (.int .i64 bounce) (by kernel_rfl) (S_call (lvl L bounce) (fun r : Tx => .tuple #[.agg #[.int .i64 r.1, .slice r.2.1 (List.length r.2.2.2) r.2.2.1], .bool true]) hM21 (c_Pick1 L bounce w20 A cap (Rd.stay hR (St.below hM21)) (fun x hx => TxS.stay (hT x hx) (St.below hM21)) hL hm) (by kernel_rfl) (fun r22 h23 w24 hM25 => S_val (.tuple #[.agg #[.int .i64 r22.1, .slice r22.2.1 (List.length r22.2.2.2) r22.2.2.1], .bool true]) (by kernel_rfl) (S_val (.agg #[.int .i64 r22.1, .slice r22.2.1 (List.length r22.2.2.2) r22.2.2.1]) (by kernel_rfl) (S_val (.bool true) (by kernel_rfl) (S_fresh none #[.int .i64 0, .slice none 0 0] 24 hM25 (by kernel_rfl) (fun g26 w27 hM28 => S_store 0 0 #[.int .i64 r22.1, .slice r22.2.1 (List.length r22.2.2.2) r22.2.2.1] hM28 (by kernel_rfl) (fun w29 hM30 => ?_))))))))))))
  have HR := hr_lt HR h23
  refine S_val (.bool true) (by kernel_rfl) (S_nil (R_seq (R_seq (R_region (S_val (.bool true) (by kernel_rfl) (S_val (.bool false) (by kernel_rfl) (S_nil (R_no (by kernel_rfl) (R_skip (R_seq (R_region (?_))))))))))))
  refine S_load 3 0 (.agg #[.int .i64 m.1, .int .i64 m.2.1, .int .i64 m.2.2.1, .int .i64 m.2.2.2]) hM30 (by kernel_rfl) (S_load 4 0 (.agg #[.int .i64 uv.1.1, .int .i64 uv.1.2, .int .i64 uv.2.1.1, .int .i64 uv.2.1.2, .int .i64 uv.2.2.1, .int .i64 uv.2.2.2]) hM30 (by kernel_rfl) (S_call (s_texel_Bary m uv) (fun r : Int × Int => .tuple #[.int .i64 r.1, .int .i64 r.2]) hM30 (w_texel_Bary m uv h_m h_uv w29) (by kernel_rfl) (fun r31 h32 w33 hM34 => S_val (.tuple #[.int .i64 r31.1, .int .i64 r31.2]) (by kernel_rfl) (S_val (.int .i64 r31.1) (by kernel_rfl) (S_val (.int .i64 r31.2) (by kernel_rfl) (S_val (.int .i64 r31.1) (by kernel_rfl) (S_val (.int .i64 r31.2) (by kernel_rfl) (S_nil (R_seq (R_region (S_load 0 0 (.agg #[.int .i64 r22.1, .slice r22.2.1 (List.length r22.2.2.2) r22.2.2.1]) hM34 (by kernel_rfl) (?_))))))))))))
  have HR := hr_lt HR h32
  refine S_val (.int .i64 r31.1) (by kernel_rfl) (S_int (gmax r31.1 0) .i64 (by kernel_rfl) (fun x35 h36 => S_int (gmin x35 65535) .i64 (by kernel_rfl) (fun x37 h38 => S_val (.int .i64 r31.2) (by kernel_rfl) (S_int (gmax r31.2 0) .i64 (by kernel_rfl) (fun x39 h40 => S_int (gmin x39 65535) .i64 (by kernel_rfl) (fun x41 h42 => S_call (s_texel_Sample r22.1 r22.2.2.2 x37 x41) (fun r : (Int × Int × Int) × Int => .tuple #[.agg #[.int .i64 r.1.1, .int .i64 r.1.2.1, .int .i64 r.1.2.2], .int .i64 r.2]) hM34 (w_texel_Sample r22.1 r22.2.2.2 x37 x41 w33 r22.2.1 r22.2.2.1 (Rd.stay (lvl_ok hT hL h23).toTxOk.rd (St.below hM34)) (lvl_ok hT hL h23).small) (by kernel_rfl) (fun r43 h44 w45 hM46 => S_val (.tuple #[.agg #[.int .i64 r43.1.1, .int .i64 r43.1.2.1, .int .i64 r43.1.2.2], .int .i64 r43.2]) (by kernel_rfl) (S_val (.agg #[.int .i64 r43.1.1, .int .i64 r43.1.2.1, .int .i64 r43.1.2.2]) (by kernel_rfl) (S_val (.int .i64 r43.2) (by kernel_rfl) (S_fresh none #[.int .i64 0, .int .i64 0, .int .i64 0] 29 hM46 (by kernel_rfl) (fun g47 w48 hM49 => S_store 0 0 #[.int .i64 r43.1.1, .int .i64 r43.1.2.1, .int .i64 r43.1.2.2] hM49 (by kernel_rfl) (fun w50 hM51 => ?_))))))))))))
  have HR := hr_lt HR h36
  have HR := hr_lt HR h38
  have HR := hr_lt HR h40
  have HR := hr_lt HR h42
  have HR := hr_lt HR h44
  refine S_val (.int .i64 r43.2) (by kernel_rfl) (S_nil (R_seq (R_seq (R_region (S_val (.int .i64 r43.2) (by kernel_rfl) (?_))))))
  refine S_decn (r43.2 = 0) (by kernel_rfl) (fun c52 => ?_) (fun c52 => ?_)
  · refine S_nil (R_yes (by kernel_rfl) (R_seq (R_region (S_load 2 0 (.agg #[.int .i64 r13.1, .int .i64 r13.2.1, .int .i64 r13.2.2]) hM51 (by kernel_rfl) (S_store 3 0 #[.int .i64 r13.1, .int .i64 r13.2.1, .int .i64 r13.2.2] hM51 (by kernel_rfl) (fun w53 hM54 => S_nil (?_)))))))
    have HR := hr_neg HR c52
    refine R_ret hM54 rfl (.cons (.cell _ _ 3 0 (.agg #[.int .i64 r13.1, .int .i64 r13.2.1, .int .i64 r13.2.2]) (by kernel_rfl)) .nil) rfl ?_
    exact ⟨congrArg Ending.returned HR, hM54.below⟩
  · refine S_nil (R_no (by kernel_rfl) (R_skip (R_seq (R_region (S_load 2 0 (.agg #[.int .i64 r13.1, .int .i64 r13.2.1, .int .i64 r13.2.2]) hM51 (by kernel_rfl) (S_load 0 0 (.agg #[.int .i64 r43.1.1, .int .i64 r43.1.2.1, .int .i64 r43.1.2.2]) hM51 (by kernel_rfl) (S_fresh (some 2) #[.int .i64 r13.1, .int .i64 r13.2.1, .int .i64 r13.2.2, .int .i64 r43.1.1, .int .i64 r43.1.2.1, .int .i64 r43.1.2.2] 29 hM51 (by kernel_rfl) (fun g55 w56 hM57 => S_call (mulT [r13, r43.1]) (fun r : Int × Int × Int => .agg #[.int .i64 r.1, .int .i64 r.2.1, .int .i64 r.2.2]) hM57 (c_vecTimes [r13, r43.1] ⟨(tr (P := fun r : Int × Int × Int => InV r) h14 (i_texel_Color color 65535 h_color (show InI 65535 from by unfold InI; omega))).out, (tr (P := fun r : (Int × Int × Int) × Int => (InV r.1 ∧ InI r.2)) h44 (Sample_IR r22.1 r22.2.2.2 x37 x41)).out.1, trivial⟩ (by kernel_rfl) hM57 0 2 2 rfl (by kernel_rfl) (by kernel_rfl)) (by kernel_rfl) (fun r58 h59 w60 hM61 => S_store 4 0 #[.int .i64 r58.1, .int .i64 r58.2.1, .int .i64 r58.2.2] hM61 (by kernel_rfl) (fun w62 hM63 => S_nil (?_)))))))))))
    have HR := hr_pos HR c52
    have HR := hr_lt HR h59
    refine R_ret hM63 rfl (.cons (.cell _ _ 4 0 (.agg #[.int .i64 r58.1, .int .i64 r58.2.1, .int .i64 r58.2.2]) (by kernel_rfl)) .nil) rfl ?_
    exact ⟨congrArg Ending.returned HR, hM63.below⟩

def e_umbraref25_Surface_0 (r : Int × Int × Int) : Value := .agg #[.int .i64 r.1, .int .i64 r.2.1, .int .i64 r.2.2]
def s_umbraref25_Surface_0 (color : Int × Int × Int) (uv : (Int × Int) × (Int × Int) × (Int × Int)) (m : Int × Int × Int × Int) (bounce : Int) : Int × Int × Int :=
  lt (s_umbraref25_Color color 65535) fun r13 =>
  r13
set_option maxRecDepth 100000 in
set_option maxHeartbeats 4000000 in
theorem w_umbraref25_Surface_0 (color : Int × Int × Int) (uv : (Int × Int) × (Int × Int) × (Int × Int)) (m : Int × Int × Int × Int) (bounce : Int) (h_color : InV color) (h_uv : ((InI uv.1.1 ∧ InI uv.1.2) ∧ (InI uv.2.1.1 ∧ InI uv.2.1.2) ∧ (InI uv.2.2.1 ∧ InI uv.2.2.2))) (h_m : InM m) (h_bounce : InI bounce) (A : Option Addr) (cap : Nat) (w : World) : Calls Try.prog 28 #[.agg #[.int .i64 color.1, .int .i64 color.2.1, .int .i64 color.2.2], .slice A 0 cap, .agg #[.int .i64 uv.1.1, .int .i64 uv.1.2, .int .i64 uv.2.1.1, .int .i64 uv.2.1.2, .int .i64 uv.2.2.1, .int .i64 uv.2.2.2], .agg #[.int .i64 m.1, .int .i64 m.2.1, .int .i64 m.2.2.1, .int .i64 m.2.2.2], .int .i64 bounce] w (Ret (e_umbraref25_Surface_0 (s_umbraref25_Surface_0 color uv m bounce)) w) := by
  obtain ⟨R, HR⟩ : ∃ R, e_umbraref25_Surface_0 (s_umbraref25_Surface_0 color uv m bounce) = R := ⟨_, rfl⟩
  rw [HR]
  unfold s_umbraref25_Surface_0 at HR
  have hM0 := St.start w
  refine calls_run Try.func28 rfl ?_
  refine R_seq (R_region (S_fresh none #[.int .i64 color.1, .int .i64 color.2.1, .int .i64 color.2.2] 36 hM0 (by kernel_rfl) (fun g1 w2 hM3 => S_fresh none #[.int .i64 uv.1.1, .int .i64 uv.1.2, .int .i64 uv.2.1.1, .int .i64 uv.2.1.2, .int .i64 uv.2.2.1, .int .i64 uv.2.2.2] 51 hM3 (by kernel_rfl) (fun g4 w5 hM6 => S_fresh none #[.int .i64 m.1, .int .i64 m.2.1, .int .i64 m.2.2.1, .int .i64 m.2.2.2] 50 hM6 (by kernel_rfl) (fun g7 w8 hM9 => S_fresh none #[.int .i64 0, .int .i64 0, .int .i64 0] 29 hM9 (by kernel_rfl) (fun g10 w11 hM12 => S_nil (R_seq (R_region (S_load 3 0 (.agg #[.int .i64 color.1, .int .i64 color.2.1, .int .i64 color.2.2]) hM12 (by kernel_rfl) (S_call (s_umbraref25_Color color 65535) (fun r : Int × Int × Int => .agg #[.int .i64 r.1, .int .i64 r.2.1, .int .i64 r.2.2]) hM12 (w_umbraref25_Color color 65535 h_color (show InI 65535 from by unfold InI; omega) w11) (by kernel_rfl) (fun r13 h14 w15 hM16 => S_fresh none #[.int .i64 0, .int .i64 0, .int .i64 0] 29 hM16 (by kernel_rfl) (fun g17 w18 hM19 => ?_))))))))))))
  have HR := hr_lt HR h14
  refine S_store 0 0 #[.int .i64 r13.1, .int .i64 r13.2.1, .int .i64 r13.2.2] hM19 (by kernel_rfl) (fun w20 hM21 => S_nil (R_seq (R_seq (R_region (S_val (.slice A 0 cap) (by kernel_rfl) (S_val (.int .i64 0) (by kernel_rfl) (S_val (.bool true) (by kernel_rfl) (S_nil (R_yes (by kernel_rfl) (R_seq (R_region (?_))))))))))))
  refine S_load 0 0 (.agg #[.int .i64 r13.1, .int .i64 r13.2.1, .int .i64 r13.2.2]) hM21 (by kernel_rfl) (S_store 1 0 #[.int .i64 r13.1, .int .i64 r13.2.1, .int .i64 r13.2.2] hM21 (by kernel_rfl) (fun w22 hM23 => S_nil (?_)))
  refine R_ret hM23 rfl (.cons (.cell _ _ 1 0 (.agg #[.int .i64 r13.1, .int .i64 r13.2.1, .int .i64 r13.2.2]) (by kernel_rfl)) .nil) rfl ?_
  exact ⟨congrArg Ending.returned HR, hM23.below⟩

def e_umbraref25_Surface_1 (r : Int × Int × Int) : Value := .agg #[.int .i64 r.1, .int .i64 r.2.1, .int .i64 r.2.2]
def s_umbraref25_Surface_1 (L : List (Tx)) (color : Int × Int × Int) (uv : (Int × Int) × (Int × Int) × (Int × Int)) (m : Int × Int × Int × Int) (bounce : Int) : Int × Int × Int :=
  lt (s_umbraref25_Color color 65535) fun r13 =>
  if (List.length L : Int) = 0 then
    r13
  else
    lt (gmax bounce 0) fun x25 =>
    lt (IntKind.i64.wrap ((List.length L : Int) - 1)) fun x27 =>
    lt (gmin x25 x27) fun x29 =>
    lt (baryV m uv) fun r38 =>
    lt (gmax r38.1 0) fun x42 =>
    lt (gmin x42 65535) fun x44 =>
    lt (gmax r38.2 0) fun x46 =>
    lt (gmin x46 65535) fun x48 =>
    lt (s_umbraref25_Sample ((gd tx0 L x29).1) ((gd tx0 L x29).2.2.2) x44 x48) fun r50 =>
    if r50.2 = 0 then
      lt (vmul r13 r50.1) fun r62 =>
      r62
    else
      r13
set_option maxRecDepth 100000 in
set_option maxHeartbeats 4000000 in
theorem w_umbraref25_Surface_1 (L : List (Tx)) (color : Int × Int × Int) (uv : (Int × Int) × (Int × Int) × (Int × Int)) (m : Int × Int × Int × Int) (bounce : Int) (h_color : InV color) (h_uv : ((InI uv.1.1 ∧ InI uv.1.2) ∧ (InI uv.2.1.1 ∧ InI uv.2.1.2) ∧ (InI uv.2.2.1 ∧ InI uv.2.2.2))) (h_m : InM m) (h_bounce : InI bounce) (w : World) (A : Option Addr) (cap : Nat) (hR : Rd tE 2 w A L) (hT : ∀ x ∈ L, TxS w x) (hL : 0 < (List.length L : Int)) (hm : (List.length L : Int) ≤ 1000) : Calls Try.prog 28 #[.agg #[.int .i64 color.1, .int .i64 color.2.1, .int .i64 color.2.2], .slice A (List.length L) cap, .agg #[.int .i64 uv.1.1, .int .i64 uv.1.2, .int .i64 uv.2.1.1, .int .i64 uv.2.1.2, .int .i64 uv.2.2.1, .int .i64 uv.2.2.2], .agg #[.int .i64 m.1, .int .i64 m.2.1, .int .i64 m.2.2.1, .int .i64 m.2.2.2], .int .i64 bounce] w (Ret (e_umbraref25_Surface_1 (s_umbraref25_Surface_1 L color uv m bounce)) w) := by
  obtain ⟨R, HR⟩ : ∃ R, e_umbraref25_Surface_1 (s_umbraref25_Surface_1 L color uv m bounce) = R := ⟨_, rfl⟩
  rw [HR]
  unfold s_umbraref25_Surface_1 at HR
  have hM0 := St.start w
  refine calls_run Try.func28 rfl ?_
  refine R_seq (R_region (S_fresh none #[.int .i64 color.1, .int .i64 color.2.1, .int .i64 color.2.2] 36 hM0 (by kernel_rfl) (fun g1 w2 hM3 => S_fresh none #[.int .i64 uv.1.1, .int .i64 uv.1.2, .int .i64 uv.2.1.1, .int .i64 uv.2.1.2, .int .i64 uv.2.2.1, .int .i64 uv.2.2.2] 51 hM3 (by kernel_rfl) (fun g4 w5 hM6 => S_fresh none #[.int .i64 m.1, .int .i64 m.2.1, .int .i64 m.2.2.1, .int .i64 m.2.2.2] 50 hM6 (by kernel_rfl) (fun g7 w8 hM9 => S_fresh none #[.int .i64 0, .int .i64 0, .int .i64 0] 29 hM9 (by kernel_rfl) (fun g10 w11 hM12 => S_nil (R_seq (R_region (S_load 3 0 (.agg #[.int .i64 color.1, .int .i64 color.2.1, .int .i64 color.2.2]) hM12 (by kernel_rfl) (S_call (s_umbraref25_Color color 65535) (fun r : Int × Int × Int => .agg #[.int .i64 r.1, .int .i64 r.2.1, .int .i64 r.2.2]) hM12 (w_umbraref25_Color color 65535 h_color (show InI 65535 from by unfold InI; omega) w11) (by kernel_rfl) (fun r13 h14 w15 hM16 => S_fresh none #[.int .i64 0, .int .i64 0, .int .i64 0] 29 hM16 (by kernel_rfl) (fun g17 w18 hM19 => ?_))))))))))))
  have HR := hr_lt HR h14
  refine S_store 0 0 #[.int .i64 r13.1, .int .i64 r13.2.1, .int .i64 r13.2.2] hM19 (by kernel_rfl) (fun w20 hM21 => S_nil (R_seq (R_seq (R_region (S_val (.slice A (List.length L) cap) (by kernel_rfl) (S_val (.int .i64 (List.length L : Int)) (by kernel_rfl) (?_)))))))
  refine S_dec ((List.length L : Int) = 0) (by kernel_rfl) (fun c22 => ?_) (fun c22 => ?_)
  · refine S_nil (R_yes (by kernel_rfl) (R_seq (R_region (S_load 0 0 (.agg #[.int .i64 r13.1, .int .i64 r13.2.1, .int .i64 r13.2.2]) hM21 (by kernel_rfl) (S_store 1 0 #[.int .i64 r13.1, .int .i64 r13.2.1, .int .i64 r13.2.2] hM21 (by kernel_rfl) (fun w23 hM24 => S_nil (?_)))))))
    have HR := hr_pos HR c22
    refine R_ret hM24 rfl (.cons (.cell _ _ 1 0 (.agg #[.int .i64 r13.1, .int .i64 r13.2.1, .int .i64 r13.2.2]) (by kernel_rfl)) .nil) rfl ?_
    exact ⟨congrArg Ending.returned HR, hM24.below⟩
  · refine S_nil (R_no (by kernel_rfl) (R_skip (R_seq (R_region (S_val (.slice A (List.length L) cap) (by kernel_rfl) (S_val (.int .i64 bounce) (by kernel_rfl) (S_int (gmax bounce 0) .i64 (by kernel_rfl) (fun x25 h26 => S_val (.slice A (List.length L) cap) (by kernel_rfl) (S_val (.int .i64 (List.length L : Int)) (by kernel_rfl) (S_int (IntKind.i64.wrap ((List.length L : Int) - 1)) .i64 (by kernel_rfl) (fun x27 h28 => S_int (gmin x25 x27) .i64 (by kernel_rfl) (fun x29 h30 => ?_))))))))))))
    have HR := hr_neg HR c22
    have HR := hr_lt HR h26
    have HR := hr_lt HR h28
    have HR := hr_lt HR h30
    obtain ⟨b31, off32, rfl⟩ := Rd.op (i := x29) hR (lvl_ix hL hm h26 h28 h30).1
    refine S_idx 24 2 b31 off32 (List.length L) cap x29 (lvl_ix hL hm h26 h28 h30).1 (by kernel_rfl) (S_loadX tE 2 tx0 x29 0 b31 off32 (.agg #[.int .i64 ((gd tx0 L x29).1), .slice ((gd tx0 L x29).2.1) (List.length ((gd tx0 L x29).2.2.2)) ((gd tx0 L x29).2.2.1)]) hM21 hR tE_len (lvl_ix hL hm h26 h28 h30).1 (by kernel_rfl) (S_fresh none #[.int .i64 0, .slice none 0 0] 24 hM21 (by kernel_rfl) (fun g33 w34 hM35 => S_store 0 0 #[.int .i64 ((gd tx0 L x29).1), .slice ((gd tx0 L x29).2.1) (List.length ((gd tx0 L x29).2.2.2)) ((gd tx0 L x29).2.2.1)] hM35 (by kernel_rfl) (fun w36 hM37 => S_nil (R_seq (R_region (S_load 3 0 (.agg #[.int .i64 m.1, .int .i64 m.2.1, .int .i64 m.2.2.1, .int .i64 m.2.2.2]) hM37 (by kernel_rfl) (S_load 4 0 (.agg #[.int .i64 uv.1.1, .int .i64 uv.1.2, .int .i64 uv.2.1.1, .int .i64 uv.2.1.2, .int .i64 uv.2.2.1, .int .i64 uv.2.2.2]) hM37 (by kernel_rfl) (S_call (baryV m uv) (fun r : Int × Int => .tuple #[.int .i64 r.1, .int .i64 r.2]) hM37 (k_Bary m uv h_m h_uv w36) (by kernel_rfl) (fun r38 h39 w40 hM41 => S_val (.tuple #[.int .i64 r38.1, .int .i64 r38.2]) (by kernel_rfl) (S_val (.int .i64 r38.1) (by kernel_rfl) (?_))))))))))))
    have HR := hr_lt HR h39
    refine S_val (.int .i64 r38.2) (by kernel_rfl) (S_val (.int .i64 r38.1) (by kernel_rfl) (S_val (.int .i64 r38.2) (by kernel_rfl) (S_nil (R_seq (R_region (S_load 0 0 (.agg #[.int .i64 ((gd tx0 L x29).1), .slice ((gd tx0 L x29).2.1) (List.length ((gd tx0 L x29).2.2.2)) ((gd tx0 L x29).2.2.1)]) hM41 (by kernel_rfl) (S_val (.int .i64 r38.1) (by kernel_rfl) (S_int (gmax r38.1 0) .i64 (by kernel_rfl) (fun x42 h43 => S_int (gmin x42 65535) .i64 (by kernel_rfl) (fun x44 h45 => S_val (.int .i64 r38.2) (by kernel_rfl) (S_int (gmax r38.2 0) .i64 (by kernel_rfl) (fun x46 h47 => ?_))))))))))))
    have HR := hr_lt HR h43
    have HR := hr_lt HR h45
    have HR := hr_lt HR h47
    refine S_int (gmin x46 65535) .i64 (by kernel_rfl) (fun x48 h49 => S_call (s_umbraref25_Sample ((gd tx0 L x29).1) ((gd tx0 L x29).2.2.2) x44 x48) (fun r : (Int × Int × Int) × Int => .tuple #[.agg #[.int .i64 r.1.1, .int .i64 r.1.2.1, .int .i64 r.1.2.2], .int .i64 r.2]) hM41 (w_umbraref25_Sample ((gd tx0 L x29).1) ((gd tx0 L x29).2.2.2) x44 x48 w40 (gd tx0 L x29).2.1 (gd tx0 L x29).2.2.1 (Rd.stay (txs_at hT (lvl_ix hL hm h26 h28 h30).1).toTxOk.rd (St.below hM41)) (txs_at hT (lvl_ix hL hm h26 h28 h30).1).small) (by kernel_rfl) (fun r50 h51 w52 hM53 => S_val (.tuple #[.agg #[.int .i64 r50.1.1, .int .i64 r50.1.2.1, .int .i64 r50.1.2.2], .int .i64 r50.2]) (by kernel_rfl) (S_val (.agg #[.int .i64 r50.1.1, .int .i64 r50.1.2.1, .int .i64 r50.1.2.2]) (by kernel_rfl) (S_val (.int .i64 r50.2) (by kernel_rfl) (S_fresh none #[.int .i64 0, .int .i64 0, .int .i64 0] 29 hM53 (by kernel_rfl) (fun g54 w55 hM56 => S_store 0 0 #[.int .i64 r50.1.1, .int .i64 r50.1.2.1, .int .i64 r50.1.2.2] hM56 (by kernel_rfl) (fun w57 hM58 => S_val (.int .i64 r50.2) (by kernel_rfl) (S_nil (R_seq (R_seq (R_region (?_))))))))))))
    have HR := hr_lt HR h49
    have HR := hr_lt HR h51
    refine S_val (.int .i64 r50.2) (by kernel_rfl) (?_)
    refine S_decn (r50.2 = 0) (by kernel_rfl) (fun c59 => ?_) (fun c59 => ?_)
    · refine S_nil (R_yes (by kernel_rfl) (R_seq (R_region (S_load 2 0 (.agg #[.int .i64 r13.1, .int .i64 r13.2.1, .int .i64 r13.2.2]) hM58 (by kernel_rfl) (S_store 3 0 #[.int .i64 r13.1, .int .i64 r13.2.1, .int .i64 r13.2.2] hM58 (by kernel_rfl) (fun w60 hM61 => S_nil (?_)))))))
      have HR := hr_neg HR c59
      refine R_ret hM61 rfl (.cons (.cell _ _ 3 0 (.agg #[.int .i64 r13.1, .int .i64 r13.2.1, .int .i64 r13.2.2]) (by kernel_rfl)) .nil) rfl ?_
      exact ⟨congrArg Ending.returned HR, hM61.below⟩
    · refine S_nil (R_no (by kernel_rfl) (R_skip (R_seq (R_region (S_load 2 0 (.agg #[.int .i64 r13.1, .int .i64 r13.2.1, .int .i64 r13.2.2]) hM58 (by kernel_rfl) (S_load 0 0 (.agg #[.int .i64 r50.1.1, .int .i64 r50.1.2.1, .int .i64 r50.1.2.2]) hM58 (by kernel_rfl) (S_call (vmul r13 r50.1) (fun r : Int × Int × Int => .agg #[.int .i64 r.1, .int .i64 r.2.1, .int .i64 r.2.2]) hM58 (c_umbraref03_Both r13 r50.1 ((tr (P := fun r : Int × Int × Int => InV r) h14 (i_umbraref25_Color color 65535 h_color (show InI 65535 from by unfold InI; omega))).out) ((tr (P := fun r : (Int × Int × Int) × Int => (InV r.1 ∧ InI r.2)) h51 (rSample_IR ((gd tx0 L x29).1) ((gd tx0 L x29).2.2.2) ((txs_at hT (lvl_ix hL hm h26 h28 h30).1).small) x44 x48)).out.1) w57) (by kernel_rfl) (fun r62 h63 w64 hM65 => S_store 3 0 #[.int .i64 r62.1, .int .i64 r62.2.1, .int .i64 r62.2.2] hM65 (by kernel_rfl) (fun w66 hM67 => S_nil (?_))))))))))
      have HR := hr_pos HR c59
      have HR := hr_lt HR h63
      refine R_ret hM67 rfl (.cons (.cell _ _ 3 0 (.agg #[.int .i64 r62.1, .int .i64 r62.2.1, .int .i64 r62.2.2]) (by kernel_rfl)) .nil) rfl ?_
      exact ⟨congrArg Ending.returned HR, hM67.below⟩

end Go.Proofs.Ytognbeejobfpfaa
