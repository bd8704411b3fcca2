/- Walks: tri.Box, umbraref20.Box, umbralaw20.TriPoints. Layer 20: the box of places is the document's; TriPoints. -/
import Derived.Test.YtbfgmedjogjkeaaL20b
import Derived.Test.YtbfgmedjogjkeaaGoX
import Derived.Test.YtbfgmedjogjkeaaGoM
import Derived.Test.YtbfgmedjogjkeaaL20c
import Derived.Test.YtbfgmedjogjkeaaGoF
namespace Go.Proofs.Ytbfgmedjogjkeaa
open Go.RowKit Go.Sort
set_option linter.unusedVariables false
set_option linter.unusedSimpArgs false

def e_tri_Box (r : (Int × Int × Int) × (Int × Int × Int)) : Value := .tuple #[.agg #[.int .i64 r.1.1, .int .i64 r.1.2.1, .int .i64 r.1.2.2], .agg #[.int .i64 r.2.1, .int .i64 r.2.2.1, .int .i64 r.2.2.2]]
def L2_tri_Box (l : List (Int × Int × Int)) : Nat → (Int) → (Int × Int × Int) → (Int × Int × Int) → ((Int × Int × Int) × (Int × Int × Int))
  | 0, _, _, _ => default
  | f7 + 1, k, lo, hi =>
    if k < (List.length l : Int) then
      if k = 0 then
        lt (gmin ((gd zero3 l k).1) ((gd zero3 l k).1)) fun x28 =>
        lt (gmin ((gd zero3 l k).2.1) ((gd zero3 l k).2.1)) fun x30 =>
        lt (gmin ((gd zero3 l k).2.2) ((gd zero3 l k).2.2)) fun x32 =>
        lt (gmax ((gd zero3 l k).1) ((gd zero3 l k).1)) fun x36 =>
        lt (gmax ((gd zero3 l k).2.1) ((gd zero3 l k).2.1)) fun x38 =>
        lt (gmax ((gd zero3 l k).2.2) ((gd zero3 l k).2.2)) fun x40 =>
        lt (IntKind.i64.wrap (k + 1)) fun x44 =>
        L2_tri_Box l f7 x44 (x28, x30, x32) (x36, x38, x40)
      else
        lt (gmin lo.1 ((gd zero3 l k).1)) fun x46 =>
        lt (gmin lo.2.1 ((gd zero3 l k).2.1)) fun x48 =>
        lt (gmin lo.2.2 ((gd zero3 l k).2.2)) fun x50 =>
        lt (gmax hi.1 ((gd zero3 l k).1)) fun x54 =>
        lt (gmax hi.2.1 ((gd zero3 l k).2.1)) fun x56 =>
        lt (gmax hi.2.2 ((gd zero3 l k).2.2)) fun x58 =>
        lt (IntKind.i64.wrap (k + 1)) fun x62 =>
        L2_tri_Box l f7 x62 (x46, x48, x50) (x54, x56, x58)
    else
      (lo, hi)
def s_tri_Box (l : List (Int × Int × Int)) : (Int × Int × Int) × (Int × Int × Int) :=
  L2_tri_Box l (Int.toNat ((List.length l : Int) - 0) + 1) 0 (0, 0, 0) (0, 0, 0)
set_option maxRecDepth 100000 in
set_option maxHeartbeats 4000000 in
theorem w_tri_Box (l : List (Int × Int × Int)) (w : World) (A : Option Addr) (cap : Nat) (hR : Rd v3c 3 w A l) (hl : (List.length l : Int) ≤ 1000) : Calls Try.prog 48 #[.slice A (List.length l) cap] w (Ret (e_tri_Box (s_tri_Box l)) w) := by
  obtain ⟨R, HR⟩ : ∃ R, e_tri_Box (s_tri_Box l) = R := ⟨_, rfl⟩
  rw [HR]
  unfold s_tri_Box at HR
  have hM0 := St.start w
  refine calls_run Try.func48 rfl ?_
  refine R_seq (R_region (S_fresh none #[.int .i64 0, .int .i64 0, .int .i64 0] 23 hM0 (by kernel_rfl) (fun g1 w2 hM3 => S_fresh none #[.int .i64 0, .int .i64 0, .int .i64 0] 23 hM3 (by kernel_rfl) (fun g4 w5 hM6 => S_nil (R_seq (R_seq (R_region (S_val (.slice A (List.length l) cap) (by kernel_rfl) (S_val (.int .i64 (List.length l : Int)) (by kernel_rfl) (S_val (.int .i64 0) (by kernel_rfl) (S_nil (?_))))))))))))
  refine R_block (?_)
  refine R_fuel (fun m8 a9 w10 => ∃ (k : Int) (lo : Int × Int × Int) (hi : Int × Int × Int) (u1_4 : Value) (u1_5 : Value) (u1_9 : Value) (u1_10 : Value) (u1_11 : Value) (u1_12 : Value) (u1_13 : Value) (u1_14 : Value) (u1_15 : Value) (u1_16 : Value) (u1_17 : Value) (u1_18 : Value) (u1_19 : Value) (u1_20 : Value) (u1_21 : Value) (u1_22 : Value) (u1_23 : Value) (u1_24 : Value) (u1_25 : Value) (u1_26 : Value) (u1_27 : Value) (u1_28 : Value) (u1_29 : Value) (u1_30 : Value) (u1_31 : Value) (u1_32 : Value) (u1_33 : Value) (u1_34 : Value) (u1_35 : Value) (u1_36 : Value) (u1_37 : Value) (u1_38 : Value) (u1_39 : Value) (u1_40 : Value) (u1_41 : Value) (u1_42 : Value) (u1_43 : Value) (u1_44 : Value) (u1_45 : Value) (u1_46 : Value) (u1_47 : Value) (u1_48 : Value) (u1_49 : Value), a9 = { tmps := #[.slice A (List.length l) cap, undef, .pointer (some ⟨g1, 0, none⟩), .pointer (some ⟨g4, 0, none⟩), u1_4, u1_5, .slice A (List.length l) cap, .int .i64 (List.length l : Int), .int .i64 k, u1_9, u1_10, u1_11, u1_12, u1_13, u1_14, u1_15, u1_16, u1_17, u1_18, u1_19, u1_20, u1_21, u1_22, u1_23, u1_24, u1_25, u1_26, u1_27, u1_28, u1_29, u1_30, u1_31, u1_32, u1_33, u1_34, u1_35, u1_36, u1_37, u1_38, u1_39, u1_40, u1_41, u1_42, u1_43, u1_44, u1_45, u1_46, u1_47, u1_48, u1_49, undef, undef], defers := [] } ∧ St w [⟨g4, #[.int .i64 hi.1, .int .i64 hi.2.1, .int .i64 hi.2.2], 23, (0, 0), true⟩, ⟨g1, #[.int .i64 lo.1, .int .i64 lo.2.1, .int .i64 lo.2.2], 23, (0, 0), true⟩] w10 ∧ (List.length l : Int) - k < (m8 : Int) ∧ ((0 ≤ k ∧ k ≤ (List.length l : Int))) ∧ e_tri_Box (L2_tri_Box l m8 k lo hi) = R) (Int.toNat ((List.length l : Int) - 0) + 1) ⟨0, (0, 0, 0), (0, 0, 0), undef, undef, undef, undef, undef, undef, undef, undef, undef, undef, undef, undef, undef, undef, undef, undef, undef, undef, undef, undef, undef, undef, undef, undef, undef, undef, undef, undef, undef, undef, undef, undef, undef, undef, undef, undef, undef, undef, undef, undef, undef, undef, undef, by kernel_rfl, hM6, by omega, (by omega), HR⟩ ?_
  rintro m8 a9 w10 ⟨k, lo, hi, u1_4, u1_5, u1_9, u1_10, u1_11, u1_12, u1_13, u1_14, u1_15, u1_16, u1_17, u1_18, u1_19, u1_20, u1_21, u1_22, u1_23, u1_24, u1_25, u1_26, u1_27, u1_28, u1_29, u1_30, u1_31, u1_32, u1_33, u1_34, u1_35, u1_36, u1_37, u1_38, u1_39, u1_40, u1_41, u1_42, u1_43, u1_44, u1_45, u1_46, u1_47, u1_48, u1_49, rfl, hM11, hmu1, hk, HR⟩ hnext12
  obtain ⟨f7, rfl⟩ : ∃ f, m8 = f + 1 := ⟨m8 - 1, by omega⟩
  rw [L2_tri_Box] at HR
  refine R_seq (R_region (?_))
  refine S_dec (k < (List.length l : Int)) (by kernel_rfl) (fun c13 => ?_) (fun c13 => ?_)
  · refine S_nil (R_seq (R_yes (by kernel_rfl) (R_skip (R_seq (R_block (R_seq (R_region (S_val (.int .i64 k) (by kernel_rfl) (?_)))))))))
    have HR := hr_pos HR c13
    obtain ⟨b14, off15, rfl⟩ := Rd.op (i := k) hR (by omega)
    refine S_idx 23 3 b14 off15 (List.length l) cap k (by omega) (by kernel_rfl) (S_loadX v3c 3 zero3 k 0 b14 off15 (.agg #[.int .i64 ((gd zero3 l k).1), .int .i64 ((gd zero3 l k).2.1), .int .i64 ((gd zero3 l k).2.2)]) hM11 hR v3c_len (by omega) (by kernel_rfl) (S_fresh none #[.int .i64 0, .int .i64 0, .int .i64 0] 23 hM11 (by kernel_rfl) (fun g16 w17 hM18 => S_val (.int .i64 k) (by kernel_rfl) (S_store 0 0 #[.int .i64 ((gd zero3 l k).1), .int .i64 ((gd zero3 l k).2.1), .int .i64 ((gd zero3 l k).2.2)] hM18 (by kernel_rfl) (fun w19 hM20 => S_nil (R_seq (R_seq (R_region (S_val (.int .i64 k) (by kernel_rfl) (?_))))))))))
    refine S_dec (k = 0) (by kernel_rfl) (fun c21 => ?_) (fun c21 => ?_)
    · refine S_nil (R_yes (by kernel_rfl) (R_drawE [[0, 1, 2, 3], [0, 2, 1, 3], [1, 0, 2, 3]] hM20 (by kernel_rfl) (fun w22 hM23 => ?_)))
      have HR := hr_pos HR c21
      refine ⟨?_, ?_, ?_, trivial⟩
      · refine S_load 0 0 (.agg #[.int .i64 ((gd zero3 l k).1), .int .i64 ((gd zero3 l k).2.1), .int .i64 ((gd zero3 l k).2.2)]) hM23 (by kernel_rfl) (S_load 0 0 (.agg #[.int .i64 ((gd zero3 l k).1), .int .i64 ((gd zero3 l k).2.1), .int .i64 ((gd zero3 l k).2.2)]) hM23 (by kernel_rfl) (S_store 2 0 #[.int .i64 ((gd zero3 l k).1), .int .i64 ((gd zero3 l k).2.1), .int .i64 ((gd zero3 l k).2.2)] hM23 (by kernel_rfl) (fun w24 hM25 => S_store 1 0 #[.int .i64 ((gd zero3 l k).1), .int .i64 ((gd zero3 l k).2.1), .int .i64 ((gd zero3 l k).2.2)] hM25 (by kernel_rfl) (fun w26 hM27 => S_nil (R_seq (R_region (S_val (.pointer (some ⟨g1, 0, none⟩)) (by kernel_rfl) (S_load 2 0 (.int .i64 ((gd zero3 l k).1)) hM27 (by kernel_rfl) (S_val (.pointer (some ⟨g16, 0, none⟩)) (by kernel_rfl) (S_load 0 0 (.int .i64 ((gd zero3 l k).1)) hM27 (by kernel_rfl) (S_int (gmin ((gd zero3 l k).1) ((gd zero3 l k).1)) .i64 (by kernel_rfl) (fun x28 h29 => ?_))))))))))))
        have HR := hr_lt HR h29
        refine S_val (.pointer (some ⟨g1, 1, none⟩)) (by kernel_rfl) (S_load 2 1 (.int .i64 ((gd zero3 l k).2.1)) hM27 (by kernel_rfl) (S_val (.pointer (some ⟨g16, 1, none⟩)) (by kernel_rfl) (S_load 0 1 (.int .i64 ((gd zero3 l k).2.1)) hM27 (by kernel_rfl) (S_int (gmin ((gd zero3 l k).2.1) ((gd zero3 l k).2.1)) .i64 (by kernel_rfl) (fun x30 h31 => S_val (.pointer (some ⟨g1, 2, none⟩)) (by kernel_rfl) (S_load 2 2 (.int .i64 ((gd zero3 l k).2.2)) hM27 (by kernel_rfl) (S_val (.pointer (some ⟨g16, 2, none⟩)) (by kernel_rfl) (S_load 0 2 (.int .i64 ((gd zero3 l k).2.2)) hM27 (by kernel_rfl) (S_int (gmin ((gd zero3 l k).2.2) ((gd zero3 l k).2.2)) .i64 (by kernel_rfl) (fun x32 h33 => S_val (.agg #[.int .i64 x28, .int .i64 x30, .int .i64 x32]) (by kernel_rfl) (S_store 2 0 #[.int .i64 x28, .int .i64 x30, .int .i64 x32] hM27 (by kernel_rfl) (fun w34 hM35 => ?_))))))))))))
        have HR := hr_lt HR h31
        have HR := hr_lt HR h33
        refine S_nil (R_region (S_val (.pointer (some ⟨g4, 0, none⟩)) (by kernel_rfl) (S_load 1 0 (.int .i64 ((gd zero3 l k).1)) hM35 (by kernel_rfl) (S_val (.pointer (some ⟨g16, 0, none⟩)) (by kernel_rfl) (S_load 0 0 (.int .i64 ((gd zero3 l k).1)) hM35 (by kernel_rfl) (S_int (gmax ((gd zero3 l k).1) ((gd zero3 l k).1)) .i64 (by kernel_rfl) (fun x36 h37 => S_val (.pointer (some ⟨g4, 1, none⟩)) (by kernel_rfl) (S_load 1 1 (.int .i64 ((gd zero3 l k).2.1)) hM35 (by kernel_rfl) (S_val (.pointer (some ⟨g16, 1, none⟩)) (by kernel_rfl) (S_load 0 1 (.int .i64 ((gd zero3 l k).2.1)) hM35 (by kernel_rfl) (S_int (gmax ((gd zero3 l k).2.1) ((gd zero3 l k).2.1)) .i64 (by kernel_rfl) (fun x38 h39 => ?_))))))))))))
        have HR := hr_lt HR h37
        have HR := hr_lt HR h39
        refine S_val (.pointer (some ⟨g4, 2, none⟩)) (by kernel_rfl) (S_load 1 2 (.int .i64 ((gd zero3 l k).2.2)) hM35 (by kernel_rfl) (S_val (.pointer (some ⟨g16, 2, none⟩)) (by kernel_rfl) (S_load 0 2 (.int .i64 ((gd zero3 l k).2.2)) hM35 (by kernel_rfl) (S_int (gmax ((gd zero3 l k).2.2) ((gd zero3 l k).2.2)) .i64 (by kernel_rfl) (fun x40 h41 => S_val (.agg #[.int .i64 x36, .int .i64 x38, .int .i64 x40]) (by kernel_rfl) (S_store 1 0 #[.int .i64 x36, .int .i64 x38, .int .i64 x40] hM35 (by kernel_rfl) (fun w42 hM43 => S_nil (R_inBlock (R_region (S_int (IntKind.i64.wrap (k + 1)) .i64 (by kernel_rfl) (fun x44 h45 => S_val (.int .i64 x44) (by kernel_rfl) (?_))))))))))))
        have HR := hr_lt HR h41
        have HR := hr_lt HR h45
        refine S_nil (?_)
        have hw_x44 := h45; rw [wrI] at hw_x44; unfold wrap64 at hw_x44
        have hw_x28 := h29; rw [gmin_eq] at hw_x28
        have hw_x30 := h31; rw [gmin_eq] at hw_x30
        have hw_x32 := h33; rw [gmin_eq] at hw_x32
        have hw_x36 := h37; rw [gmax_eq] at hw_x36
        have hw_x38 := h39; rw [gmax_eq] at hw_x38
        have hw_x40 := h41; rw [gmax_eq] at hw_x40
        exact hnext12 f7 _ _ (Nat.lt_succ_self _) ⟨x44, (x28, x30, x32), (x36, x38, x40), .int .i64 k, .pointer (some ⟨g16, 0, none⟩), .bool true, .int .i64 k, .pointer (some ⟨b14, off15 + Int.toNat k * 3 + 0, none⟩), .agg #[.int .i64 ((gd zero3 l k).1), .int .i64 ((gd zero3 l k).2.1), .int .i64 ((gd zero3 l k).2.2)], .int .i64 k, .bool true, .agg #[.int .i64 ((gd zero3 l k).1), .int .i64 ((gd zero3 l k).2.1), .int .i64 ((gd zero3 l k).2.2)], .agg #[.int .i64 ((gd zero3 l k).1), .int .i64 ((gd zero3 l k).2.1), .int .i64 ((gd zero3 l k).2.2)], .pointer (some ⟨g1, 0, none⟩), .int .i64 ((gd zero3 l k).1), .pointer (some ⟨g16, 0, none⟩), .int .i64 ((gd zero3 l k).1), .int .i64 x28, .pointer (some ⟨g1, 1, none⟩), .int .i64 ((gd zero3 l k).2.1), .pointer (some ⟨g16, 1, none⟩), .int .i64 ((gd zero3 l k).2.1), .int .i64 x30, .pointer (some ⟨g1, 2, none⟩), .int .i64 ((gd zero3 l k).2.2), .pointer (some ⟨g16, 2, none⟩), .int .i64 ((gd zero3 l k).2.2), .int .i64 x32, .agg #[.int .i64 x28, .int .i64 x30, .int .i64 x32], .pointer (some ⟨g4, 0, none⟩), .int .i64 ((gd zero3 l k).1), .pointer (some ⟨g16, 0, none⟩), .int .i64 ((gd zero3 l k).1), .int .i64 x36, .pointer (some ⟨g4, 1, none⟩), .int .i64 ((gd zero3 l k).2.1), .pointer (some ⟨g16, 1, none⟩), .int .i64 ((gd zero3 l k).2.1), .int .i64 x38, .pointer (some ⟨g4, 2, none⟩), .int .i64 ((gd zero3 l k).2.2), .pointer (some ⟨g16, 2, none⟩), .int .i64 ((gd zero3 l k).2.2), .int .i64 x40, .agg #[.int .i64 x36, .int .i64 x38, .int .i64 x40], .int .i64 x44, by kernel_rfl, hM43.off, by omega, (by omega), HR⟩
      · refine S_load 0 0 (.agg #[.int .i64 ((gd zero3 l k).1), .int .i64 ((gd zero3 l k).2.1), .int .i64 ((gd zero3 l k).2.2)]) hM23 (by kernel_rfl) (S_store 2 0 #[.int .i64 ((gd zero3 l k).1), .int .i64 ((gd zero3 l k).2.1), .int .i64 ((gd zero3 l k).2.2)] hM23 (by kernel_rfl) (fun w24 hM25 => S_load 0 0 (.agg #[.int .i64 ((gd zero3 l k).1), .int .i64 ((gd zero3 l k).2.1), .int .i64 ((gd zero3 l k).2.2)]) hM25 (by kernel_rfl) (S_store 1 0 #[.int .i64 ((gd zero3 l k).1), .int .i64 ((gd zero3 l k).2.1), .int .i64 ((gd zero3 l k).2.2)] hM25 (by kernel_rfl) (fun w26 hM27 => S_nil (R_seq (R_region (S_val (.pointer (some ⟨g1, 0, none⟩)) (by kernel_rfl) (S_load 2 0 (.int .i64 ((gd zero3 l k).1)) hM27 (by kernel_rfl) (S_val (.pointer (some ⟨g16, 0, none⟩)) (by kernel_rfl) (S_load 0 0 (.int .i64 ((gd zero3 l k).1)) hM27 (by kernel_rfl) (S_int (gmin ((gd zero3 l k).1) ((gd zero3 l k).1)) .i64 (by kernel_rfl) (fun x28 h29 => ?_))))))))))))
        have HR := hr_lt HR h29
        refine S_val (.pointer (some ⟨g1, 1, none⟩)) (by kernel_rfl) (S_load 2 1 (.int .i64 ((gd zero3 l k).2.1)) hM27 (by kernel_rfl) (S_val (.pointer (some ⟨g16, 1, none⟩)) (by kernel_rfl) (S_load 0 1 (.int .i64 ((gd zero3 l k).2.1)) hM27 (by kernel_rfl) (S_int (gmin ((gd zero3 l k).2.1) ((gd zero3 l k).2.1)) .i64 (by kernel_rfl) (fun x30 h31 => S_val (.pointer (some ⟨g1, 2, none⟩)) (by kernel_rfl) (S_load 2 2 (.int .i64 ((gd zero3 l k).2.2)) hM27 (by kernel_rfl) (S_val (.pointer (some ⟨g16, 2, none⟩)) (by kernel_rfl) (S_load 0 2 (.int .i64 ((gd zero3 l k).2.2)) hM27 (by kernel_rfl) (S_int (gmin ((gd zero3 l k).2.2) ((gd zero3 l k).2.2)) .i64 (by kernel_rfl) (fun x32 h33 => S_val (.agg #[.int .i64 x28, .int .i64 x30, .int .i64 x32]) (by kernel_rfl) (S_store 2 0 #[.int .i64 x28, .int .i64 x30, .int .i64 x32] hM27 (by kernel_rfl) (fun w34 hM35 => ?_))))))))))))
        have HR := hr_lt HR h31
        have HR := hr_lt HR h33
        refine S_nil (R_region (S_val (.pointer (some ⟨g4, 0, none⟩)) (by kernel_rfl) (S_load 1 0 (.int .i64 ((gd zero3 l k).1)) hM35 (by kernel_rfl) (S_val (.pointer (some ⟨g16, 0, none⟩)) (by kernel_rfl) (S_load 0 0 (.int .i64 ((gd zero3 l k).1)) hM35 (by kernel_rfl) (S_int (gmax ((gd zero3 l k).1) ((gd zero3 l k).1)) .i64 (by kernel_rfl) (fun x36 h37 => S_val (.pointer (some ⟨g4, 1, none⟩)) (by kernel_rfl) (S_load 1 1 (.int .i64 ((gd zero3 l k).2.1)) hM35 (by kernel_rfl) (S_val (.pointer (some ⟨g16, 1, none⟩)) (by kernel_rfl) (S_load 0 1 (.int .i64 ((gd zero3 l k).2.1)) hM35 (by kernel_rfl) (S_int (gmax ((gd zero3 l k).2.1) ((gd zero3 l k).2.1)) .i64 (by kernel_rfl) (fun x38 h39 => ?_))))))))))))
        have HR := hr_lt HR h37
        have HR := hr_lt HR h39
        refine S_val (.pointer (some ⟨g4, 2, none⟩)) (by kernel_rfl) (S_load 1 2 (.int .i64 ((gd zero3 l k).2.2)) hM35 (by kernel_rfl) (S_val (.pointer (some ⟨g16, 2, none⟩)) (by kernel_rfl) (S_load 0 2 (.int .i64 ((gd zero3 l k).2.2)) hM35 (by kernel_rfl) (S_int (gmax ((gd zero3 l k).2.2) ((gd zero3 l k).2.2)) .i64 (by kernel_rfl) (fun x40 h41 => S_val (.agg #[.int .i64 x36, .int .i64 x38, .int .i64 x40]) (by kernel_rfl) (S_store 1 0 #[.int .i64 x36, .int .i64 x38, .int .i64 x40] hM35 (by kernel_rfl) (fun w42 hM43 => S_nil (R_inBlock (R_region (S_int (IntKind.i64.wrap (k + 1)) .i64 (by kernel_rfl) (fun x44 h45 => S_val (.int .i64 x44) (by kernel_rfl) (?_))))))))))))
        have HR := hr_lt HR h41
        have HR := hr_lt HR h45
        refine S_nil (?_)
        have hw_x44 := h45; rw [wrI] at hw_x44; unfold wrap64 at hw_x44
        have hw_x28 := h29; rw [gmin_eq] at hw_x28
        have hw_x30 := h31; rw [gmin_eq] at hw_x30
        have hw_x32 := h33; rw [gmin_eq] at hw_x32
        have hw_x36 := h37; rw [gmax_eq] at hw_x36
        have hw_x38 := h39; rw [gmax_eq] at hw_x38
        have hw_x40 := h41; rw [gmax_eq] at hw_x40
        exact hnext12 f7 _ _ (Nat.lt_succ_self _) ⟨x44, (x28, x30, x32), (x36, x38, x40), .int .i64 k, .pointer (some ⟨g16, 0, none⟩), .bool true, .int .i64 k, .pointer (some ⟨b14, off15 + Int.toNat k * 3 + 0, none⟩), .agg #[.int .i64 ((gd zero3 l k).1), .int .i64 ((gd zero3 l k).2.1), .int .i64 ((gd zero3 l k).2.2)], .int .i64 k, .bool true, .agg #[.int .i64 ((gd zero3 l k).1), .int .i64 ((gd zero3 l k).2.1), .int .i64 ((gd zero3 l k).2.2)], .agg #[.int .i64 ((gd zero3 l k).1), .int .i64 ((gd zero3 l k).2.1), .int .i64 ((gd zero3 l k).2.2)], .pointer (some ⟨g1, 0, none⟩), .int .i64 ((gd zero3 l k).1), .pointer (some ⟨g16, 0, none⟩), .int .i64 ((gd zero3 l k).1), .int .i64 x28, .pointer (some ⟨g1, 1, none⟩), .int .i64 ((gd zero3 l k).2.1), .pointer (some ⟨g16, 1, none⟩), .int .i64 ((gd zero3 l k).2.1), .int .i64 x30, .pointer (some ⟨g1, 2, none⟩), .int .i64 ((gd zero3 l k).2.2), .pointer (some ⟨g16, 2, none⟩), .int .i64 ((gd zero3 l k).2.2), .int .i64 x32, .agg #[.int .i64 x28, .int .i64 x30, .int .i64 x32], .pointer (some ⟨g4, 0, none⟩), .int .i64 ((gd zero3 l k).1), .pointer (some ⟨g16, 0, none⟩), .int .i64 ((gd zero3 l k).1), .int .i64 x36, .pointer (some ⟨g4, 1, none⟩), .int .i64 ((gd zero3 l k).2.1), .pointer (some ⟨g16, 1, none⟩), .int .i64 ((gd zero3 l k).2.1), .int .i64 x38, .pointer (some ⟨g4, 2, none⟩), .int .i64 ((gd zero3 l k).2.2), .pointer (some ⟨g16, 2, none⟩), .int .i64 ((gd zero3 l k).2.2), .int .i64 x40, .agg #[.int .i64 x36, .int .i64 x38, .int .i64 x40], .int .i64 x44, by kernel_rfl, hM43.off, by omega, (by omega), HR⟩
      · refine S_load 0 0 (.agg #[.int .i64 ((gd zero3 l k).1), .int .i64 ((gd zero3 l k).2.1), .int .i64 ((gd zero3 l k).2.2)]) hM23 (by kernel_rfl) (S_load 0 0 (.agg #[.int .i64 ((gd zero3 l k).1), .int .i64 ((gd zero3 l k).2.1), .int .i64 ((gd zero3 l k).2.2)]) hM23 (by kernel_rfl) (S_store 2 0 #[.int .i64 ((gd zero3 l k).1), .int .i64 ((gd zero3 l k).2.1), .int .i64 ((gd zero3 l k).2.2)] hM23 (by kernel_rfl) (fun w24 hM25 => S_store 1 0 #[.int .i64 ((gd zero3 l k).1), .int .i64 ((gd zero3 l k).2.1), .int .i64 ((gd zero3 l k).2.2)] hM25 (by kernel_rfl) (fun w26 hM27 => S_nil (R_seq (R_region (S_val (.pointer (some ⟨g1, 0, none⟩)) (by kernel_rfl) (S_load 2 0 (.int .i64 ((gd zero3 l k).1)) hM27 (by kernel_rfl) (S_val (.pointer (some ⟨g16, 0, none⟩)) (by kernel_rfl) (S_load 0 0 (.int .i64 ((gd zero3 l k).1)) hM27 (by kernel_rfl) (S_int (gmin ((gd zero3 l k).1) ((gd zero3 l k).1)) .i64 (by kernel_rfl) (fun x28 h29 => ?_))))))))))))
        have HR := hr_lt HR h29
        refine S_val (.pointer (some ⟨g1, 1, none⟩)) (by kernel_rfl) (S_load 2 1 (.int .i64 ((gd zero3 l k).2.1)) hM27 (by kernel_rfl) (S_val (.pointer (some ⟨g16, 1, none⟩)) (by kernel_rfl) (S_load 0 1 (.int .i64 ((gd zero3 l k).2.1)) hM27 (by kernel_rfl) (S_int (gmin ((gd zero3 l k).2.1) ((gd zero3 l k).2.1)) .i64 (by kernel_rfl) (fun x30 h31 => S_val (.pointer (some ⟨g1, 2, none⟩)) (by kernel_rfl) (S_load 2 2 (.int .i64 ((gd zero3 l k).2.2)) hM27 (by kernel_rfl) (S_val (.pointer (some ⟨g16, 2, none⟩)) (by kernel_rfl) (S_load 0 2 (.int .i64 ((gd zero3 l k).2.2)) hM27 (by kernel_rfl) (S_int (gmin ((gd zero3 l k).2.2) ((gd zero3 l k).2.2)) .i64 (by kernel_rfl) (fun x32 h33 => S_val (.agg #[.int .i64 x28, .int .i64 x30, .int .i64 x32]) (by kernel_rfl) (S_store 2 0 #[.int .i64 x28, .int .i64 x30, .int .i64 x32] hM27 (by kernel_rfl) (fun w34 hM35 => ?_))))))))))))
        have HR := hr_lt HR h31
        have HR := hr_lt HR h33
        refine S_nil (R_region (S_val (.pointer (some ⟨g4, 0, none⟩)) (by kernel_rfl) (S_load 1 0 (.int .i64 ((gd zero3 l k).1)) hM35 (by kernel_rfl) (S_val (.pointer (some ⟨g16, 0, none⟩)) (by kernel_rfl) (S_load 0 0 (.int .i64 ((gd zero3 l k).1)) hM35 (by kernel_rfl) (S_int (gmax ((gd zero3 l k).1) ((gd zero3 l k).1)) .i64 (by kernel_rfl) (fun x36 h37 => S_val (.pointer (some ⟨g4, 1, none⟩)) (by kernel_rfl) (S_load 1 1 (.int .i64 ((gd zero3 l k).2.1)) hM35 (by kernel_rfl) (S_val (.pointer (some ⟨g16, 1, none⟩)) (by kernel_rfl) (S_load 0 1 (.int .i64 ((gd zero3 l k).2.1)) hM35 (by kernel_rfl) (S_int (gmax ((gd zero3 l k).2.1) ((gd zero3 l k).2.1)) .i64 (by kernel_rfl) (fun x38 h39 => ?_))))))))))))
        have HR := hr_lt HR h37
        have HR := hr_lt HR h39
        refine S_val (.pointer (some ⟨g4, 2, none⟩)) (by kernel_rfl) (S_load 1 2 (.int .i64 ((gd zero3 l k).2.2)) hM35 (by kernel_rfl) (S_val (.pointer (some ⟨g16, 2, none⟩)) (by kernel_rfl) (S_load 0 2 (.int .i64 ((gd zero3 l k).2.2)) hM35 (by kernel_rfl) (S_int (gmax ((gd zero3 l k).2.2) ((gd zero3 l k).2.2)) .i64 (by kernel_rfl) (fun x40 h41 => S_val (.agg #[.int .i64 x36, .int .i64 x38, .int .i64 x40]) (by kernel_rfl) (S_store 1 0 #[.int .i64 x36, .int .i64 x38, .int .i64 x40] hM35 (by kernel_rfl) (fun w42 hM43 => S_nil (R_inBlock (R_region (S_int (IntKind.i64.wrap (k + 1)) .i64 (by kernel_rfl) (fun x44 h45 => S_val (.int .i64 x44) (by kernel_rfl) (?_))))))))))))
        have HR := hr_lt HR h41
        have HR := hr_lt HR h45
        refine S_nil (?_)
        have hw_x44 := h45; rw [wrI] at hw_x44; unfold wrap64 at hw_x44
        have hw_x28 := h29; rw [gmin_eq] at hw_x28
        have hw_x30 := h31; rw [gmin_eq] at hw_x30
        have hw_x32 := h33; rw [gmin_eq] at hw_x32
        have hw_x36 := h37; rw [gmax_eq] at hw_x36
        have hw_x38 := h39; rw [gmax_eq] at hw_x38
        have hw_x40 := h41; rw [gmax_eq] at hw_x40
        exact hnext12 f7 _ _ (Nat.lt_succ_self _) ⟨x44, (x28, x30, x32), (x36, x38, x40), .int .i64 k, .pointer (some ⟨g16, 0, none⟩), .bool true, .int .i64 k, .pointer (some ⟨b14, off15 + Int.toNat k * 3 + 0, none⟩), .agg #[.int .i64 ((gd zero3 l k).1), .int .i64 ((gd zero3 l k).2.1), .int .i64 ((gd zero3 l k).2.2)], .int .i64 k, .bool true, .agg #[.int .i64 ((gd zero3 l k).1), .int .i64 ((gd zero3 l k).2.1), .int .i64 ((gd zero3 l k).2.2)], .agg #[.int .i64 ((gd zero3 l k).1), .int .i64 ((gd zero3 l k).2.1), .int .i64 ((gd zero3 l k).2.2)], .pointer (some ⟨g1, 0, none⟩), .int .i64 ((gd zero3 l k).1), .pointer (some ⟨g16, 0, none⟩), .int .i64 ((gd zero3 l k).1), .int .i64 x28, .pointer (some ⟨g1, 1, none⟩), .int .i64 ((gd zero3 l k).2.1), .pointer (some ⟨g16, 1, none⟩), .int .i64 ((gd zero3 l k).2.1), .int .i64 x30, .pointer (some ⟨g1, 2, none⟩), .int .i64 ((gd zero3 l k).2.2), .pointer (some ⟨g16, 2, none⟩), .int .i64 ((gd zero3 l k).2.2), .int .i64 x32, .agg #[.int .i64 x28, .int .i64 x30, .int .i64 x32], .pointer (some ⟨g4, 0, none⟩), .int .i64 ((gd zero3 l k).1), .pointer (some ⟨g16, 0, none⟩), .int .i64 ((gd zero3 l k).1), .int .i64 x36, .pointer (some ⟨g4, 1, none⟩), .int .i64 ((gd zero3 l k).2.1), .pointer (some ⟨g16, 1, none⟩), .int .i64 ((gd zero3 l k).2.1), .int .i64 x38, .pointer (some ⟨g4, 2, none⟩), .int .i64 ((gd zero3 l k).2.2), .pointer (some ⟨g16, 2, none⟩), .int .i64 ((gd zero3 l k).2.2), .int .i64 x40, .agg #[.int .i64 x36, .int .i64 x38, .int .i64 x40], .int .i64 x44, by kernel_rfl, hM43.off, by omega, (by omega), HR⟩
    · refine S_nil (R_no (by kernel_rfl) (R_skip (R_seq (R_region (S_val (.pointer (some ⟨g1, 0, none⟩)) (by kernel_rfl) (S_load 2 0 (.int .i64 lo.1) hM20 (by kernel_rfl) (S_val (.pointer (some ⟨g16, 0, none⟩)) (by kernel_rfl) (S_load 0 0 (.int .i64 ((gd zero3 l k).1)) hM20 (by kernel_rfl) (S_int (gmin lo.1 ((gd zero3 l k).1)) .i64 (by kernel_rfl) (fun x46 h47 => S_val (.pointer (some ⟨g1, 1, none⟩)) (by kernel_rfl) (S_load 2 1 (.int .i64 lo.2.1) hM20 (by kernel_rfl) (?_))))))))))))
      have HR := hr_neg HR c21
      have HR := hr_lt HR h47
      refine S_val (.pointer (some ⟨g16, 1, none⟩)) (by kernel_rfl) (S_load 0 1 (.int .i64 ((gd zero3 l k).2.1)) hM20 (by kernel_rfl) (S_int (gmin lo.2.1 ((gd zero3 l k).2.1)) .i64 (by kernel_rfl) (fun x48 h49 => S_val (.pointer (some ⟨g1, 2, none⟩)) (by kernel_rfl) (S_load 2 2 (.int .i64 lo.2.2) hM20 (by kernel_rfl) (S_val (.pointer (some ⟨g16, 2, none⟩)) (by kernel_rfl) (S_load 0 2 (.int .i64 ((gd zero3 l k).2.2)) hM20 (by kernel_rfl) (S_int (gmin lo.2.2 ((gd zero3 l k).2.2)) .i64 (by kernel_rfl) (fun x50 h51 => S_val (.agg #[.int .i64 x46, .int .i64 x48, .int .i64 x50]) (by kernel_rfl) (S_store 2 0 #[.int .i64 x46, .int .i64 x48, .int .i64 x50] hM20 (by kernel_rfl) (fun w52 hM53 => S_nil (R_region (?_))))))))))))
      have HR := hr_lt HR h49
      have HR := hr_lt HR h51
      refine S_val (.pointer (some ⟨g4, 0, none⟩)) (by kernel_rfl) (S_load 1 0 (.int .i64 hi.1) hM53 (by kernel_rfl) (S_val (.pointer (some ⟨g16, 0, none⟩)) (by kernel_rfl) (S_load 0 0 (.int .i64 ((gd zero3 l k).1)) hM53 (by kernel_rfl) (S_int (gmax hi.1 ((gd zero3 l k).1)) .i64 (by kernel_rfl) (fun x54 h55 => S_val (.pointer (some ⟨g4, 1, none⟩)) (by kernel_rfl) (S_load 1 1 (.int .i64 hi.2.1) hM53 (by kernel_rfl) (S_val (.pointer (some ⟨g16, 1, none⟩)) (by kernel_rfl) (S_load 0 1 (.int .i64 ((gd zero3 l k).2.1)) hM53 (by kernel_rfl) (S_int (gmax hi.2.1 ((gd zero3 l k).2.1)) .i64 (by kernel_rfl) (fun x56 h57 => S_val (.pointer (some ⟨g4, 2, none⟩)) (by kernel_rfl) (S_load 1 2 (.int .i64 hi.2.2) hM53 (by kernel_rfl) (?_))))))))))))
      have HR := hr_lt HR h55
      have HR := hr_lt HR h57
      refine S_val (.pointer (some ⟨g16, 2, none⟩)) (by kernel_rfl) (S_load 0 2 (.int .i64 ((gd zero3 l k).2.2)) hM53 (by kernel_rfl) (S_int (gmax hi.2.2 ((gd zero3 l k).2.2)) .i64 (by kernel_rfl) (fun x58 h59 => S_val (.agg #[.int .i64 x54, .int .i64 x56, .int .i64 x58]) (by kernel_rfl) (S_store 1 0 #[.int .i64 x54, .int .i64 x56, .int .i64 x58] hM53 (by kernel_rfl) (fun w60 hM61 => S_nil (R_inBlock (R_region (S_int (IntKind.i64.wrap (k + 1)) .i64 (by kernel_rfl) (fun x62 h63 => S_val (.int .i64 x62) (by kernel_rfl) (S_nil (?_)))))))))))
      have HR := hr_lt HR h59
      have HR := hr_lt HR h63
      have hw_x62 := h63; rw [wrI] at hw_x62; unfold wrap64 at hw_x62
      have hw_x46 := h47; rw [gmin_eq] at hw_x46
      have hw_x48 := h49; rw [gmin_eq] at hw_x48
      have hw_x50 := h51; rw [gmin_eq] at hw_x50
      have hw_x54 := h55; rw [gmax_eq] at hw_x54
      have hw_x56 := h57; rw [gmax_eq] at hw_x56
      have hw_x58 := h59; rw [gmax_eq] at hw_x58
      exact hnext12 f7 _ _ (Nat.lt_succ_self _) ⟨x62, (x46, x48, x50), (x54, x56, x58), .int .i64 k, .pointer (some ⟨g16, 0, none⟩), .bool true, .int .i64 k, .pointer (some ⟨b14, off15 + Int.toNat k * 3 + 0, none⟩), .agg #[.int .i64 ((gd zero3 l k).1), .int .i64 ((gd zero3 l k).2.1), .int .i64 ((gd zero3 l k).2.2)], .int .i64 k, .bool false, u1_15, u1_16, .pointer (some ⟨g1, 0, none⟩), .int .i64 lo.1, .pointer (some ⟨g16, 0, none⟩), .int .i64 ((gd zero3 l k).1), .int .i64 x46, .pointer (some ⟨g1, 1, none⟩), .int .i64 lo.2.1, .pointer (some ⟨g16, 1, none⟩), .int .i64 ((gd zero3 l k).2.1), .int .i64 x48, .pointer (some ⟨g1, 2, none⟩), .int .i64 lo.2.2, .pointer (some ⟨g16, 2, none⟩), .int .i64 ((gd zero3 l k).2.2), .int .i64 x50, .agg #[.int .i64 x46, .int .i64 x48, .int .i64 x50], .pointer (some ⟨g4, 0, none⟩), .int .i64 hi.1, .pointer (some ⟨g16, 0, none⟩), .int .i64 ((gd zero3 l k).1), .int .i64 x54, .pointer (some ⟨g4, 1, none⟩), .int .i64 hi.2.1, .pointer (some ⟨g16, 1, none⟩), .int .i64 ((gd zero3 l k).2.1), .int .i64 x56, .pointer (some ⟨g4, 2, none⟩), .int .i64 hi.2.2, .pointer (some ⟨g16, 2, none⟩), .int .i64 ((gd zero3 l k).2.2), .int .i64 x58, .agg #[.int .i64 x54, .int .i64 x56, .int .i64 x58], .int .i64 x62, by kernel_rfl, hM61.off, by omega, (by omega), HR⟩
  · refine S_nil (R_seq (R_no (by kernel_rfl) (R_exit rfl (R_seq (R_drawE [[0, 1, 2, 3], [0, 2, 1, 3], [1, 0, 2, 3]] hM11 (by kernel_rfl) (fun w64 hM65 => ?_))))))
    have HR := hr_neg HR c13
    refine ⟨?_, ?_, ?_, trivial⟩
    · refine S_load 1 0 (.agg #[.int .i64 lo.1, .int .i64 lo.2.1, .int .i64 lo.2.2]) hM65 (by kernel_rfl) (S_load 0 0 (.agg #[.int .i64 hi.1, .int .i64 hi.2.1, .int .i64 hi.2.2]) hM65 (by kernel_rfl) (S_store 1 0 #[.int .i64 lo.1, .int .i64 lo.2.1, .int .i64 lo.2.2] hM65 (by kernel_rfl) (fun w66 hM67 => S_store 0 0 #[.int .i64 hi.1, .int .i64 hi.2.1, .int .i64 hi.2.2] hM67 (by kernel_rfl) (fun w68 hM69 => S_nil (?_)))))
      refine R_ret hM69 rfl (.cons (.cell _ _ 1 0 (.agg #[.int .i64 lo.1, .int .i64 lo.2.1, .int .i64 lo.2.2]) (by kernel_rfl)) (.cons (.cell _ _ 0 0 (.agg #[.int .i64 hi.1, .int .i64 hi.2.1, .int .i64 hi.2.2]) (by kernel_rfl)) .nil)) rfl ?_
      exact ⟨congrArg Ending.returned HR, hM69.below⟩
    · refine S_load 1 0 (.agg #[.int .i64 lo.1, .int .i64 lo.2.1, .int .i64 lo.2.2]) hM65 (by kernel_rfl) (S_store 1 0 #[.int .i64 lo.1, .int .i64 lo.2.1, .int .i64 lo.2.2] hM65 (by kernel_rfl) (fun w66 hM67 => S_load 0 0 (.agg #[.int .i64 hi.1, .int .i64 hi.2.1, .int .i64 hi.2.2]) hM67 (by kernel_rfl) (S_store 0 0 #[.int .i64 hi.1, .int .i64 hi.2.1, .int .i64 hi.2.2] hM67 (by kernel_rfl) (fun w68 hM69 => S_nil (?_)))))
      refine R_ret hM69 rfl (.cons (.cell _ _ 1 0 (.agg #[.int .i64 lo.1, .int .i64 lo.2.1, .int .i64 lo.2.2]) (by kernel_rfl)) (.cons (.cell _ _ 0 0 (.agg #[.int .i64 hi.1, .int .i64 hi.2.1, .int .i64 hi.2.2]) (by kernel_rfl)) .nil)) rfl ?_
      exact ⟨congrArg Ending.returned HR, hM69.below⟩
    · refine S_load 0 0 (.agg #[.int .i64 hi.1, .int .i64 hi.2.1, .int .i64 hi.2.2]) hM65 (by kernel_rfl) (S_load 1 0 (.agg #[.int .i64 lo.1, .int .i64 lo.2.1, .int .i64 lo.2.2]) hM65 (by kernel_rfl) (S_store 1 0 #[.int .i64 lo.1, .int .i64 lo.2.1, .int .i64 lo.2.2] hM65 (by kernel_rfl) (fun w66 hM67 => S_store 0 0 #[.int .i64 hi.1, .int .i64 hi.2.1, .int .i64 hi.2.2] hM67 (by kernel_rfl) (fun w68 hM69 => S_nil (?_)))))
      refine R_ret hM69 rfl (.cons (.cell _ _ 1 0 (.agg #[.int .i64 lo.1, .int .i64 lo.2.1, .int .i64 lo.2.2]) (by kernel_rfl)) (.cons (.cell _ _ 0 0 (.agg #[.int .i64 hi.1, .int .i64 hi.2.1, .int .i64 hi.2.2]) (by kernel_rfl)) .nil)) rfl ?_
      exact ⟨congrArg Ending.returned HR, hM69.below⟩

def e_umbraref20_Box (r : (Int × Int × Int) × (Int × Int × Int)) : Value := .tuple #[.agg #[.int .i64 r.1.1, .int .i64 r.1.2.1, .int .i64 r.1.2.2], .agg #[.int .i64 r.2.1, .int .i64 r.2.2.1, .int .i64 r.2.2.2]]
def L5_umbraref20_Box (l : List (Int × Int × Int)) : Nat → (Int) → (Int × Int × Int) → (Int × Int × Int) → ((Int × Int × Int) × (Int × Int × Int))
  | 0, _, _, _ => default
  | f31 + 1, k, lo, hi =>
    if k < (List.length l : Int) then
      lt (gmin lo.1 ((gd zero3 l k).1)) fun x41 =>
      lt (gmin lo.2.1 ((gd zero3 l k).2.1)) fun x50 =>
      lt (gmin lo.2.2 ((gd zero3 l k).2.2)) fun x59 =>
      lt (gmax hi.1 ((gd zero3 l k).1)) fun x68 =>
      lt (gmax hi.2.1 ((gd zero3 l k).2.1)) fun x77 =>
      lt (gmax hi.2.2 ((gd zero3 l k).2.2)) fun x86 =>
      lt (IntKind.i64.wrap (k + 1)) fun x92 =>
      L5_umbraref20_Box l f31 x92 (x41, x50, x59) (x68, x77, x86)
    else
      (lo, hi)
def s_umbraref20_Box (l : List (Int × Int × Int)) : (Int × Int × Int) × (Int × Int × Int) :=
  if (List.length l : Int) = 0 then
    ((0, 0, 0), (0, 0, 0))
  else
    L5_umbraref20_Box l (Int.toNat ((List.length l : Int) - 1) + 1) 1 ((gd zero3 l 0).1, (gd zero3 l 0).2.1, (gd zero3 l 0).2.2) ((gd zero3 l 0).1, (gd zero3 l 0).2.1, (gd zero3 l 0).2.2)
set_option maxRecDepth 100000 in
set_option maxHeartbeats 4000000 in
theorem w_umbraref20_Box (l : List (Int × Int × Int)) (w : World) (A : Option Addr) (cap : Nat) (hR : Rd v3c 3 w A l) (hl : (List.length l : Int) ≤ 1000) : Calls Try.prog 49 #[.slice A (List.length l) cap] w (Ret (e_umbraref20_Box (s_umbraref20_Box l)) w) := by
  obtain ⟨R, HR⟩ : ∃ R, e_umbraref20_Box (s_umbraref20_Box l) = R := ⟨_, rfl⟩
  rw [HR]
  unfold s_umbraref20_Box at HR
  have hM0 := St.start w
  refine calls_run Try.func49 rfl ?_
  refine R_seq (R_region (S_fresh none #[.int .i64 0, .int .i64 0, .int .i64 0] 23 hM0 (by kernel_rfl) (fun g1 w2 hM3 => S_fresh none #[.int .i64 0, .int .i64 0, .int .i64 0] 23 hM3 (by kernel_rfl) (fun g4 w5 hM6 => S_nil (R_seq (R_seq (R_region (S_val (.slice A (List.length l) cap) (by kernel_rfl) (S_val (.int .i64 (List.length l : Int)) (by kernel_rfl) (?_))))))))))
  refine S_dec ((List.length l : Int) = 0) (by kernel_rfl) (fun c7 => ?_) (fun c7 => ?_)
  · refine S_nil (R_yes (by kernel_rfl) (R_seq (R_region (S_val (.agg #[.int .i64 0, .int .i64 0, .int .i64 0]) (by kernel_rfl) (S_val (.agg #[.int .i64 0, .int .i64 0, .int .i64 0]) (by kernel_rfl) (S_store 1 0 #[.int .i64 0, .int .i64 0, .int .i64 0] hM6 (by kernel_rfl) (fun w8 hM9 => S_store 0 0 #[.int .i64 0, .int .i64 0, .int .i64 0] hM9 (by kernel_rfl) (fun w10 hM11 => S_nil (?_)))))))))
    have HR := hr_pos HR c7
    refine R_ret hM11 rfl (.cons (.cell _ _ 1 0 (.agg #[.int .i64 0, .int .i64 0, .int .i64 0]) (by kernel_rfl)) (.cons (.cell _ _ 0 0 (.agg #[.int .i64 0, .int .i64 0, .int .i64 0]) (by kernel_rfl)) .nil)) rfl ?_
    exact ⟨congrArg Ending.returned HR, hM11.below⟩
  · refine S_nil (R_no (by kernel_rfl) (R_skip (R_seq (R_drawG 10 (by kernel_rfl) (fun F12 U13 hL14 => G_val (.slice A (List.length l) cap) (fun _ => by kernel_rfl) (?_))))))
    have HR := hr_neg HR c7
    obtain ⟨b15, off16, rfl⟩ := Rd.op (i := 0) hR (by omega)
    refine G_idx 23 3 b15 off16 (List.length l) cap 0 (by omega) (by kernel_rfl) (G_loadX v3c 3 zero3 0 0 b15 off16 (.agg #[.int .i64 ((gd zero3 l 0).1), .int .i64 ((gd zero3 l 0).2.1), .int .i64 ((gd zero3 l 0).2.2)]) hM6 hR v3c_len (by omega) (by kernel_rfl) (G_val (.slice (some ⟨b15, off16, none⟩) (List.length l) cap) (fun _ => by kernel_rfl) (?_)))
    refine G_idx 23 3 b15 off16 (List.length l) cap 0 (by omega) (by kernel_rfl) (G_loadX v3c 3 zero3 0 0 b15 off16 (.agg #[.int .i64 ((gd zero3 l 0).1), .int .i64 ((gd zero3 l 0).2.1), .int .i64 ((gd zero3 l 0).2.2)]) hM6 hR v3c_len (by omega) (by kernel_rfl) (G_fresh none #[.int .i64 0, .int .i64 0, .int .i64 0] 23 hL14 (by kernel_rfl) (fun _ => by kernel_rfl) (fun g17 F18 U19 hL20 => G_fresh none #[.int .i64 0, .int .i64 0, .int .i64 0] 23 hL20 (by kernel_rfl) (fun _ => by kernel_rfl) (fun g21 F22 U23 hL24 => G_store 1 0 #[.int .i64 ((gd zero3 l 0).1), .int .i64 ((gd zero3 l 0).2.1), .int .i64 ((gd zero3 l 0).2.2)] hL24 (by kernel_rfl) (by kernel_rfl) (fun F25 hL26 => G_store 0 0 #[.int .i64 ((gd zero3 l 0).1), .int .i64 ((gd zero3 l 0).2.1), .int .i64 ((gd zero3 l 0).2.2)] hL26 (by kernel_rfl) (by kernel_rfl) (fun F27 hL28 => G_nil hM6 hL28 (fun w29 hM30 => S_nil (R_seq (R_seq (R_region (S_val (.int .i64 1) (by kernel_rfl) (?_))))))))))))
    refine S_nil (R_block (?_))
    refine R_fuel (fun m32 a33 w34 => ∃ (k : Int) (lo : Int × Int × Int) (hi : Int × Int × Int) (u1_18 : Value) (u1_19 : Value) (u1_20 : Value) (u1_21 : Value) (u1_22 : Value) (u1_23 : Value) (u1_24 : Value) (u1_25 : Value) (u1_26 : Value) (u1_27 : Value) (u1_28 : Value) (u1_29 : Value) (u1_30 : Value) (u1_31 : Value) (u1_32 : Value) (u1_33 : Value) (u1_34 : Value) (u1_35 : Value) (u1_36 : Value) (u1_37 : Value) (u1_38 : Value) (u1_39 : Value) (u1_40 : Value) (u1_41 : Value) (u1_42 : Value) (u1_43 : Value) (u1_44 : Value) (u1_45 : Value) (u1_46 : Value) (u1_47 : Value) (u1_48 : Value) (u1_49 : Value) (u1_50 : Value) (u1_51 : Value) (u1_52 : Value) (u1_53 : Value) (u1_54 : Value) (u1_55 : Value) (u1_56 : Value) (u1_57 : Value) (u1_58 : Value) (u1_59 : Value) (u1_60 : Value) (u1_61 : Value) (u1_62 : Value) (u1_63 : Value) (u1_64 : Value) (u1_65 : Value) (u1_66 : Value) (u1_67 : Value) (u1_68 : Value) (u1_69 : Value) (u1_70 : Value) (u1_71 : Value) (u1_72 : Value) (u1_73 : Value) (u1_74 : Value) (u1_75 : Value) (u1_76 : Value) (u1_77 : Value), a33 = { tmps := #[.slice (some ⟨b15, off16, none⟩) (List.length l) cap, undef, .pointer (some ⟨g1, 0, none⟩), .pointer (some ⟨g4, 0, none⟩), .pointer (some ⟨g17, 0, none⟩), .pointer (some ⟨g21, 0, none⟩), .int .i64 k, .slice (some ⟨b15, off16, none⟩) (List.length l) cap, .int .i64 (List.length l : Int), .bool false, undef, undef, .slice (some ⟨b15, off16, none⟩) (List.length l) cap, .pointer (some ⟨b15, off16 + Int.toNat 0 * 3 + 0, none⟩), .agg #[.int .i64 ((gd zero3 l 0).1), .int .i64 ((gd zero3 l 0).2.1), .int .i64 ((gd zero3 l 0).2.2)], .slice (some ⟨b15, off16, none⟩) (List.length l) cap, .pointer (some ⟨b15, off16 + Int.toNat 0 * 3 + 0, none⟩), .agg #[.int .i64 ((gd zero3 l 0).1), .int .i64 ((gd zero3 l 0).2.1), .int .i64 ((gd zero3 l 0).2.2)], u1_18, u1_19, u1_20, u1_21, u1_22, u1_23, u1_24, u1_25, u1_26, u1_27, u1_28, u1_29, u1_30, u1_31, u1_32, u1_33, u1_34, u1_35, u1_36, u1_37, u1_38, u1_39, u1_40, u1_41, u1_42, u1_43, u1_44, u1_45, u1_46, u1_47, u1_48, u1_49, u1_50, u1_51, u1_52, u1_53, u1_54, u1_55, u1_56, u1_57, u1_58, u1_59, u1_60, u1_61, u1_62, u1_63, u1_64, u1_65, u1_66, u1_67, u1_68, u1_69, u1_70, u1_71, u1_72, u1_73, u1_74, u1_75, u1_76, u1_77, undef, undef], defers := [] } ∧ St w [⟨g21, #[.int .i64 hi.1, .int .i64 hi.2.1, .int .i64 hi.2.2], 23, (0, 0), true⟩, ⟨g17, #[.int .i64 lo.1, .int .i64 lo.2.1, .int .i64 lo.2.2], 23, (0, 0), true⟩, ⟨g4, #[.int .i64 0, .int .i64 0, .int .i64 0], 23, (0, 0), true⟩, ⟨g1, #[.int .i64 0, .int .i64 0, .int .i64 0], 23, (0, 0), true⟩] w34 ∧ (List.length l : Int) - k < (m32 : Int) ∧ ((0 ≤ k ∧ k ≤ (List.length l : Int))) ∧ e_umbraref20_Box (L5_umbraref20_Box l m32 k lo hi) = R) (Int.toNat ((List.length l : Int) - 1) + 1) ⟨1, ((gd zero3 l 0).1, (gd zero3 l 0).2.1, (gd zero3 l 0).2.2), ((gd zero3 l 0).1, (gd zero3 l 0).2.1, (gd zero3 l 0).2.2), undef, undef, undef, undef, undef, undef, undef, undef, undef, undef, undef, undef, undef, undef, undef, undef, undef, undef, undef, undef, undef, undef, undef, undef, undef, undef, undef, undef, undef, undef, undef, undef, undef, undef, undef, undef, undef, undef, undef, undef, undef, undef, undef, undef, undef, undef, undef, undef, undef, undef, undef, undef, undef, undef, undef, undef, undef, undef, undef, undef, by kernel_rfl, hM30, by omega, (by omega), HR⟩ ?_
    rintro m32 a33 w34 ⟨k, lo, hi, u1_18, u1_19, u1_20, u1_21, u1_22, u1_23, u1_24, u1_25, u1_26, u1_27, u1_28, u1_29, u1_30, u1_31, u1_32, u1_33, u1_34, u1_35, u1_36, u1_37, u1_38, u1_39, u1_40, u1_41, u1_42, u1_43, u1_44, u1_45, u1_46, u1_47, u1_48, u1_49, u1_50, u1_51, u1_52, u1_53, u1_54, u1_55, u1_56, u1_57, u1_58, u1_59, u1_60, u1_61, u1_62, u1_63, u1_64, u1_65, u1_66, u1_67, u1_68, u1_69, u1_70, u1_71, u1_72, u1_73, u1_74, u1_75, u1_76, u1_77, rfl, hM35, hmu1, hk, HR⟩ hnext36
    obtain ⟨f31, rfl⟩ : ∃ f, m32 = f + 1 := ⟨m32 - 1, by omega⟩
    rw [L5_umbraref20_Box] at HR
    refine R_seq (R_seq (R_region (S_val (.int .i64 k) (by kernel_rfl) (S_val (.slice (some ⟨b15, off16, none⟩) (List.length l) cap) (by kernel_rfl) (S_val (.int .i64 (List.length l : Int)) (by kernel_rfl) (?_))))))
    refine S_dec (k < (List.length l : Int)) (by kernel_rfl) (fun c37 => ?_) (fun c37 => ?_)
    · refine S_nil (R_yes (by kernel_rfl) (R_skip (R_seq (R_block (R_seq (R_drawF 9 (by kernel_rfl) (fun F38 U39 hL40 => F_val (.pointer (some ⟨g17, 0, none⟩)) (fun _ => by kernel_rfl) (F_load 1 0 (.int .i64 lo.1) hM35 (by kernel_rfl) (F_val (.slice (some ⟨b15, off16, none⟩) (List.length l) cap) (fun _ => by kernel_rfl) (F_val (.int .i64 k) (fun _ => by kernel_rfl) (?_)))))))))))
      have HR := hr_pos HR c37
      refine F_idx 23 3 b15 off16 (List.length l) cap k (by omega) (by kernel_rfl) (F_val (.pointer (some ⟨b15, off16 + Int.toNat k * 3 + 0, none⟩)) (fun _ => by kernel_rfl) (F_loadX v3c 3 zero3 k 0 b15 off16 (.int .i64 ((gd zero3 l k).1)) hM35 hR v3c_len (by omega) (by kernel_rfl) (F_int (gmin lo.1 ((gd zero3 l k).1)) .i64 (fun _ => by kernel_rfl) (fun x41 h42 => F_val (.pointer (some ⟨g17, 0, none⟩)) (fun _ => by kernel_rfl) (F_nil hM35 hL40 (fun w43 hM44 => S_store 1 0 #[.int .i64 x41, .int .i64 lo.2.1, .int .i64 lo.2.2] hM44 (by kernel_rfl) (fun w45 hM46 => S_nil (R_seq (R_drawF 9 (by kernel_rfl) (fun F47 U48 hL49 => F_val (.pointer (some ⟨g17, 1, none⟩)) (fun _ => by kernel_rfl) (F_load 1 1 (.int .i64 lo.2.1) hM46 (by kernel_rfl) (?_))))))))))))
      have HR := hr_lt HR h42
      refine F_val (.slice (some ⟨b15, off16, none⟩) (List.length l) cap) (fun _ => by kernel_rfl) (F_val (.int .i64 k) (fun _ => by kernel_rfl) (?_))
      refine F_idx 23 3 b15 off16 (List.length l) cap k (by omega) (by kernel_rfl) (F_val (.pointer (some ⟨b15, off16 + Int.toNat k * 3 + 1, none⟩)) (fun _ => by kernel_rfl) (F_loadX v3c 3 zero3 k 1 b15 off16 (.int .i64 ((gd zero3 l k).2.1)) hM46 hR v3c_len (by omega) (by kernel_rfl) (F_int (gmin lo.2.1 ((gd zero3 l k).2.1)) .i64 (fun _ => by kernel_rfl) (fun x50 h51 => F_val (.pointer (some ⟨g17, 1, none⟩)) (fun _ => by kernel_rfl) (F_nil hM46 hL49 (fun w52 hM53 => S_store 1 1 #[.int .i64 x41, .int .i64 x50, .int .i64 lo.2.2] hM53 (by kernel_rfl) (fun w54 hM55 => S_nil (R_seq (R_drawF 9 (by kernel_rfl) (fun F56 U57 hL58 => F_val (.pointer (some ⟨g17, 2, none⟩)) (fun _ => by kernel_rfl) (F_load 1 2 (.int .i64 lo.2.2) hM55 (by kernel_rfl) (?_))))))))))))
      have HR := hr_lt HR h51
      refine F_val (.slice (some ⟨b15, off16, none⟩) (List.length l) cap) (fun _ => by kernel_rfl) (F_val (.int .i64 k) (fun _ => by kernel_rfl) (?_))
      refine F_idx 23 3 b15 off16 (List.length l) cap k (by omega) (by kernel_rfl) (F_val (.pointer (some ⟨b15, off16 + Int.toNat k * 3 + 2, none⟩)) (fun _ => by kernel_rfl) (F_loadX v3c 3 zero3 k 2 b15 off16 (.int .i64 ((gd zero3 l k).2.2)) hM55 hR v3c_len (by omega) (by kernel_rfl) (F_int (gmin lo.2.2 ((gd zero3 l k).2.2)) .i64 (fun _ => by kernel_rfl) (fun x59 h60 => F_val (.pointer (some ⟨g17, 2, none⟩)) (fun _ => by kernel_rfl) (F_nil hM55 hL58 (fun w61 hM62 => S_store 1 2 #[.int .i64 x41, .int .i64 x50, .int .i64 x59] hM62 (by kernel_rfl) (fun w63 hM64 => S_nil (R_seq (R_drawF 9 (by kernel_rfl) (fun F65 U66 hL67 => F_val (.pointer (some ⟨g21, 0, none⟩)) (fun _ => by kernel_rfl) (F_load 0 0 (.int .i64 hi.1) hM64 (by kernel_rfl) (?_))))))))))))
      have HR := hr_lt HR h60
      refine F_val (.slice (some ⟨b15, off16, none⟩) (List.length l) cap) (fun _ => by kernel_rfl) (F_val (.int .i64 k) (fun _ => by kernel_rfl) (?_))
      refine F_idx 23 3 b15 off16 (List.length l) cap k (by omega) (by kernel_rfl) (F_val (.pointer (some ⟨b15, off16 + Int.toNat k * 3 + 0, none⟩)) (fun _ => by kernel_rfl) (F_loadX v3c 3 zero3 k 0 b15 off16 (.int .i64 ((gd zero3 l k).1)) hM64 hR v3c_len (by omega) (by kernel_rfl) (F_int (gmax hi.1 ((gd zero3 l k).1)) .i64 (fun _ => by kernel_rfl) (fun x68 h69 => F_val (.pointer (some ⟨g21, 0, none⟩)) (fun _ => by kernel_rfl) (F_nil hM64 hL67 (fun w70 hM71 => S_store 0 0 #[.int .i64 x68, .int .i64 hi.2.1, .int .i64 hi.2.2] hM71 (by kernel_rfl) (fun w72 hM73 => S_nil (R_seq (R_drawF 9 (by kernel_rfl) (fun F74 U75 hL76 => F_val (.pointer (some ⟨g21, 1, none⟩)) (fun _ => by kernel_rfl) (F_load 0 1 (.int .i64 hi.2.1) hM73 (by kernel_rfl) (?_))))))))))))
      have HR := hr_lt HR h69
      refine F_val (.slice (some ⟨b15, off16, none⟩) (List.length l) cap) (fun _ => by kernel_rfl) (F_val (.int .i64 k) (fun _ => by kernel_rfl) (?_))
      refine F_idx 23 3 b15 off16 (List.length l) cap k (by omega) (by kernel_rfl) (F_val (.pointer (some ⟨b15, off16 + Int.toNat k * 3 + 1, none⟩)) (fun _ => by kernel_rfl) (F_loadX v3c 3 zero3 k 1 b15 off16 (.int .i64 ((gd zero3 l k).2.1)) hM73 hR v3c_len (by omega) (by kernel_rfl) (F_int (gmax hi.2.1 ((gd zero3 l k).2.1)) .i64 (fun _ => by kernel_rfl) (fun x77 h78 => F_val (.pointer (some ⟨g21, 1, none⟩)) (fun _ => by kernel_rfl) (F_nil hM73 hL76 (fun w79 hM80 => S_store 0 1 #[.int .i64 x68, .int .i64 x77, .int .i64 hi.2.2] hM80 (by kernel_rfl) (fun w81 hM82 => S_nil (R_drawF 9 (by kernel_rfl) (fun F83 U84 hL85 => F_val (.pointer (some ⟨g21, 2, none⟩)) (fun _ => by kernel_rfl) (F_load 0 2 (.int .i64 hi.2.2) hM82 (by kernel_rfl) (F_val (.slice (some ⟨b15, off16, none⟩) (List.length l) cap) (fun _ => by kernel_rfl) (?_))))))))))))
      have HR := hr_lt HR h78
      refine F_val (.int .i64 k) (fun _ => by kernel_rfl) (?_)
      refine F_idx 23 3 b15 off16 (List.length l) cap k (by omega) (by kernel_rfl) (F_val (.pointer (some ⟨b15, off16 + Int.toNat k * 3 + 2, none⟩)) (fun _ => by kernel_rfl) (F_loadX v3c 3 zero3 k 2 b15 off16 (.int .i64 ((gd zero3 l k).2.2)) hM82 hR v3c_len (by omega) (by kernel_rfl) (F_int (gmax hi.2.2 ((gd zero3 l k).2.2)) .i64 (fun _ => by kernel_rfl) (fun x86 h87 => F_val (.pointer (some ⟨g21, 2, none⟩)) (fun _ => by kernel_rfl) (F_nil hM82 hL85 (fun w88 hM89 => S_store 0 2 #[.int .i64 x68, .int .i64 x77, .int .i64 x86] hM89 (by kernel_rfl) (fun w90 hM91 => S_nil (R_inBlock (R_region (S_val (.int .i64 k) (by kernel_rfl) (S_int (IntKind.i64.wrap (k + 1)) .i64 (by kernel_rfl) (fun x92 h93 => ?_))))))))))))
      have HR := hr_lt HR h87
      have HR := hr_lt HR h93
      refine S_val (.int .i64 x92) (by kernel_rfl) (S_nil (?_))
      have hw_x92 := h93; rw [wrI] at hw_x92; unfold wrap64 at hw_x92
      have hw_x41 := h42; rw [gmin_eq] at hw_x41
      have hw_x50 := h51; rw [gmin_eq] at hw_x50
      have hw_x59 := h60; rw [gmin_eq] at hw_x59
      have hw_x68 := h69; rw [gmax_eq] at hw_x68
      have hw_x77 := h78; rw [gmax_eq] at hw_x77
      have hw_x86 := h87; rw [gmax_eq] at hw_x86
      exact hnext36 f31 _ _ (Nat.lt_succ_self _) ⟨x92, (x41, x50, x59), (x68, x77, x86), .int .i64 k, .slice (some ⟨b15, off16, none⟩) (List.length l) cap, .int .i64 (List.length l : Int), .bool true, .int .i64 k, .int .i64 x92, .pointer (some ⟨g17, 0, none⟩), .int .i64 lo.1, .slice (some ⟨b15, off16, none⟩) (List.length l) cap, .int .i64 k, .pointer (some ⟨b15, off16 + Int.toNat k * 3 + 0, none⟩), .pointer (some ⟨b15, off16 + Int.toNat k * 3 + 0, none⟩), .int .i64 ((gd zero3 l k).1), .int .i64 x41, .pointer (some ⟨g17, 0, none⟩), .pointer (some ⟨g17, 1, none⟩), .int .i64 lo.2.1, .slice (some ⟨b15, off16, none⟩) (List.length l) cap, .int .i64 k, .pointer (some ⟨b15, off16 + Int.toNat k * 3 + 0, none⟩), .pointer (some ⟨b15, off16 + Int.toNat k * 3 + 1, none⟩), .int .i64 ((gd zero3 l k).2.1), .int .i64 x50, .pointer (some ⟨g17, 1, none⟩), .pointer (some ⟨g17, 2, none⟩), .int .i64 lo.2.2, .slice (some ⟨b15, off16, none⟩) (List.length l) cap, .int .i64 k, .pointer (some ⟨b15, off16 + Int.toNat k * 3 + 0, none⟩), .pointer (some ⟨b15, off16 + Int.toNat k * 3 + 2, none⟩), .int .i64 ((gd zero3 l k).2.2), .int .i64 x59, .pointer (some ⟨g17, 2, none⟩), .pointer (some ⟨g21, 0, none⟩), .int .i64 hi.1, .slice (some ⟨b15, off16, none⟩) (List.length l) cap, .int .i64 k, .pointer (some ⟨b15, off16 + Int.toNat k * 3 + 0, none⟩), .pointer (some ⟨b15, off16 + Int.toNat k * 3 + 0, none⟩), .int .i64 ((gd zero3 l k).1), .int .i64 x68, .pointer (some ⟨g21, 0, none⟩), .pointer (some ⟨g21, 1, none⟩), .int .i64 hi.2.1, .slice (some ⟨b15, off16, none⟩) (List.length l) cap, .int .i64 k, .pointer (some ⟨b15, off16 + Int.toNat k * 3 + 0, none⟩), .pointer (some ⟨b15, off16 + Int.toNat k * 3 + 1, none⟩), .int .i64 ((gd zero3 l k).2.1), .int .i64 x77, .pointer (some ⟨g21, 1, none⟩), .pointer (some ⟨g21, 2, none⟩), .int .i64 hi.2.2, .slice (some ⟨b15, off16, none⟩) (List.length l) cap, .int .i64 k, .pointer (some ⟨b15, off16 + Int.toNat k * 3 + 0, none⟩), .pointer (some ⟨b15, off16 + Int.toNat k * 3 + 2, none⟩), .int .i64 ((gd zero3 l k).2.2), .int .i64 x86, .pointer (some ⟨g21, 2, none⟩), by kernel_rfl, hM91, by omega, (by omega), HR⟩
    · refine S_nil (R_no (by kernel_rfl) (R_exit rfl (R_seq (R_drawE [[0, 1, 2, 3], [0, 2, 1, 3], [1, 0, 2, 3]] hM35 (by kernel_rfl) (fun w94 hM95 => ?_)))))
      have HR := hr_neg HR c37
      refine ⟨?_, ?_, ?_, trivial⟩
      · refine S_load 1 0 (.agg #[.int .i64 lo.1, .int .i64 lo.2.1, .int .i64 lo.2.2]) hM95 (by kernel_rfl) (S_load 0 0 (.agg #[.int .i64 hi.1, .int .i64 hi.2.1, .int .i64 hi.2.2]) hM95 (by kernel_rfl) (S_store 3 0 #[.int .i64 lo.1, .int .i64 lo.2.1, .int .i64 lo.2.2] hM95 (by kernel_rfl) (fun w96 hM97 => S_store 2 0 #[.int .i64 hi.1, .int .i64 hi.2.1, .int .i64 hi.2.2] hM97 (by kernel_rfl) (fun w98 hM99 => S_nil (?_)))))
        refine R_ret hM99 rfl (.cons (.cell _ _ 3 0 (.agg #[.int .i64 lo.1, .int .i64 lo.2.1, .int .i64 lo.2.2]) (by kernel_rfl)) (.cons (.cell _ _ 2 0 (.agg #[.int .i64 hi.1, .int .i64 hi.2.1, .int .i64 hi.2.2]) (by kernel_rfl)) .nil)) rfl ?_
        exact ⟨congrArg Ending.returned HR, hM99.below⟩
      · refine S_load 1 0 (.agg #[.int .i64 lo.1, .int .i64 lo.2.1, .int .i64 lo.2.2]) hM95 (by kernel_rfl) (S_store 3 0 #[.int .i64 lo.1, .int .i64 lo.2.1, .int .i64 lo.2.2] hM95 (by kernel_rfl) (fun w96 hM97 => S_load 0 0 (.agg #[.int .i64 hi.1, .int .i64 hi.2.1, .int .i64 hi.2.2]) hM97 (by kernel_rfl) (S_store 2 0 #[.int .i64 hi.1, .int .i64 hi.2.1, .int .i64 hi.2.2] hM97 (by kernel_rfl) (fun w98 hM99 => S_nil (?_)))))
        refine R_ret hM99 rfl (.cons (.cell _ _ 3 0 (.agg #[.int .i64 lo.1, .int .i64 lo.2.1, .int .i64 lo.2.2]) (by kernel_rfl)) (.cons (.cell _ _ 2 0 (.agg #[.int .i64 hi.1, .int .i64 hi.2.1, .int .i64 hi.2.2]) (by kernel_rfl)) .nil)) rfl ?_
        exact ⟨congrArg Ending.returned HR, hM99.below⟩
      · refine S_load 0 0 (.agg #[.int .i64 hi.1, .int .i64 hi.2.1, .int .i64 hi.2.2]) hM95 (by kernel_rfl) (S_load 1 0 (.agg #[.int .i64 lo.1, .int .i64 lo.2.1, .int .i64 lo.2.2]) hM95 (by kernel_rfl) (S_store 3 0 #[.int .i64 lo.1, .int .i64 lo.2.1, .int .i64 lo.2.2] hM95 (by kernel_rfl) (fun w96 hM97 => S_store 2 0 #[.int .i64 hi.1, .int .i64 hi.2.1, .int .i64 hi.2.2] hM97 (by kernel_rfl) (fun w98 hM99 => S_nil (?_)))))
        refine R_ret hM99 rfl (.cons (.cell _ _ 3 0 (.agg #[.int .i64 lo.1, .int .i64 lo.2.1, .int .i64 lo.2.2]) (by kernel_rfl)) (.cons (.cell _ _ 2 0 (.agg #[.int .i64 hi.1, .int .i64 hi.2.1, .int .i64 hi.2.2]) (by kernel_rfl)) .nil)) rfl ?_
        exact ⟨congrArg Ending.returned HR, hM99.below⟩

def e_umbralaw20_TriPoints (r : Bool) : Value := .bool r
def s_umbralaw20_TriPoints (l : List (Int × Int × Int)) (a : Int × Int × Int) (b : Int × Int × Int) : Bool :=
  lt (gmin (List.length l : Int) 20) fun x7 =>
  lt (List.take (Int.toNat x7) l) fun l9 =>
  lt (s_tri_Box l9) fun r11 =>
  lt (s_umbraref20_Box l9) fun r25 =>
  lt (s_tri_Sub a b) fun r42 =>
  lt (s_umbraref20_Sub a b) fun r44 =>
  if (r42 : Int × Int × Int) = r44 then
    lt (s_tri_Cross a b) fun r47 =>
    lt (s_umbraref20_Cross a b) fun r49 =>
    if (r47 : Int × Int × Int) = r49 then
      lt (s_tri_Dot a b) fun r52 =>
      lt (s_umbraref20_Dot a b) fun r54 =>
      if r52 = r54 then
        if (r11.1 : Int × Int × Int) = r25.1 then
          if (r11.2 : Int × Int × Int) = r25.2 then
            lt (s_umbralaw20_works ) fun r59 =>
            if r59 = true then
              true
            else
              false
          else
            false
        else
          false
      else
        false
    else
      false
  else
    false
set_option maxRecDepth 100000 in
set_option maxHeartbeats 4000000 in
theorem w_umbralaw20_TriPoints (l : List (Int × Int × Int)) (a : Int × Int × Int) (b : Int × Int × Int) (w : World) (A : Option Addr) (cap : Nat) (hR : Rd v3c 3 w A l) (hcap : (List.length l : Int) ≤ cap) : Calls Try.prog 15 #[.agg #[.int .i64 a.1, .int .i64 a.2.1, .int .i64 a.2.2], .agg #[.int .i64 b.1, .int .i64 b.2.1, .int .i64 b.2.2], .slice A (List.length l) cap] w (Ret (e_umbralaw20_TriPoints (s_umbralaw20_TriPoints l a b)) w) := by
  obtain ⟨R, HR⟩ : ∃ R, e_umbralaw20_TriPoints (s_umbralaw20_TriPoints l a b) = R := ⟨_, rfl⟩
  rw [HR]
  unfold s_umbralaw20_TriPoints at HR
  have hM0 := St.start w
  refine calls_run Try.func15 rfl ?_
  refine R_seq (R_region (S_fresh none #[.int .i64 a.1, .int .i64 a.2.1, .int .i64 a.2.2] 23 hM0 (by kernel_rfl) (fun g1 w2 hM3 => S_fresh none #[.int .i64 b.1, .int .i64 b.2.1, .int .i64 b.2.2] 23 hM3 (by kernel_rfl) (fun g4 w5 hM6 => S_val (.bool false) (by kernel_rfl) (S_nil (R_seq (R_region (S_val (.slice A (List.length l) cap) (by kernel_rfl) (S_val (.slice A (List.length l) cap) (by kernel_rfl) (S_val (.int .i64 (List.length l : Int)) (by kernel_rfl) (S_int (gmin (List.length l : Int) 20) .i64 (by kernel_rfl) (fun x7 h8 => ?_))))))))))))
  have HR := hr_lt HR h8
  have hw_x7 := h8; rw [gmin_eq] at hw_x7
  refine S_cutX 23 A cap l x7 (by have := hcap; omega) (by kernel_rfl) (fun l9 h10 => S_val (.slice A (List.length l9) cap) (by kernel_rfl) (S_nil (R_seq (R_region (S_val (.slice A (List.length l9) cap) (by kernel_rfl) (S_call (s_tri_Box l9) (fun r : (Int × Int × Int) × (Int × Int × Int) => .tuple #[.agg #[.int .i64 r.1.1, .int .i64 r.1.2.1, .int .i64 r.1.2.2], .agg #[.int .i64 r.2.1, .int .i64 r.2.2.1, .int .i64 r.2.2.2]]) hM6 (w_tri_Box l9 w5 A cap (Rd.stay (Rd.cutE hR h10) (St.below hM6)) (cut_le h10 (by omega))) (by kernel_rfl) (fun r11 h12 w13 hM14 => S_val (.tuple #[.agg #[.int .i64 r11.1.1, .int .i64 r11.1.2.1, .int .i64 r11.1.2.2], .agg #[.int .i64 r11.2.1, .int .i64 r11.2.2.1, .int .i64 r11.2.2.2]]) (by kernel_rfl) (S_val (.agg #[.int .i64 r11.1.1, .int .i64 r11.1.2.1, .int .i64 r11.1.2.2]) (by kernel_rfl) (S_val (.agg #[.int .i64 r11.2.1, .int .i64 r11.2.2.1, .int .i64 r11.2.2.2]) (by kernel_rfl) (S_fresh none #[.int .i64 0, .int .i64 0, .int .i64 0] 23 hM14 (by kernel_rfl) (fun g15 w16 hM17 => S_fresh none #[.int .i64 0, .int .i64 0, .int .i64 0] 23 hM17 (by kernel_rfl) (fun g18 w19 hM20 => ?_))))))))))))
  have HR := hr_lt HR h10
  have HR := hr_lt HR h12
  refine S_store 1 0 #[.int .i64 r11.1.1, .int .i64 r11.1.2.1, .int .i64 r11.1.2.2] hM20 (by kernel_rfl) (fun w21 hM22 => S_store 0 0 #[.int .i64 r11.2.1, .int .i64 r11.2.2.1, .int .i64 r11.2.2.2] hM22 (by kernel_rfl) (fun w23 hM24 => S_nil (R_seq (R_region (S_val (.slice A (List.length l9) cap) (by kernel_rfl) (S_call (s_umbraref20_Box l9) (fun r : (Int × Int × Int) × (Int × Int × Int) => .tuple #[.agg #[.int .i64 r.1.1, .int .i64 r.1.2.1, .int .i64 r.1.2.2], .agg #[.int .i64 r.2.1, .int .i64 r.2.2.1, .int .i64 r.2.2.2]]) hM24 (w_umbraref20_Box l9 w23 A cap (Rd.stay (Rd.cutE hR h10) (St.below hM24)) (cut_le h10 (by omega))) (by kernel_rfl) (fun r25 h26 w27 hM28 => S_val (.tuple #[.agg #[.int .i64 r25.1.1, .int .i64 r25.1.2.1, .int .i64 r25.1.2.2], .agg #[.int .i64 r25.2.1, .int .i64 r25.2.2.1, .int .i64 r25.2.2.2]]) (by kernel_rfl) (S_val (.agg #[.int .i64 r25.1.1, .int .i64 r25.1.2.1, .int .i64 r25.1.2.2]) (by kernel_rfl) (S_val (.agg #[.int .i64 r25.2.1, .int .i64 r25.2.2.1, .int .i64 r25.2.2.2]) (by kernel_rfl) (S_fresh none #[.int .i64 0, .int .i64 0, .int .i64 0] 23 hM28 (by kernel_rfl) (fun g29 w30 hM31 => S_fresh none #[.int .i64 0, .int .i64 0, .int .i64 0] 23 hM31 (by kernel_rfl) (fun g32 w33 hM34 => ?_))))))))))))
  have HR := hr_lt HR h26
  refine S_store 1 0 #[.int .i64 r25.1.1, .int .i64 r25.1.2.1, .int .i64 r25.1.2.2] hM34 (by kernel_rfl) (fun w35 hM36 => S_store 0 0 #[.int .i64 r25.2.1, .int .i64 r25.2.2.1, .int .i64 r25.2.2.2] hM36 (by kernel_rfl) (fun w37 hM38 => S_nil (R_seq (R_drawF 39 (by kernel_rfl) (fun F39 U40 hL41 => F_load 5 0 (.agg #[.int .i64 a.1, .int .i64 a.2.1, .int .i64 a.2.2]) hM38 (by kernel_rfl) (F_load 4 0 (.agg #[.int .i64 b.1, .int .i64 b.2.1, .int .i64 b.2.2]) hM38 (by kernel_rfl) (F_call (s_tri_Sub a b) (fun r : Int × Int × Int => .agg #[.int .i64 r.1, .int .i64 r.2.1, .int .i64 r.2.2]) hM38 hL41 (fun w' hM' => w_tri_Sub a b w') (by kernel_rfl) (fun _ => by kernel_rfl) (fun r42 h43 => F_load 5 0 (.agg #[.int .i64 a.1, .int .i64 a.2.1, .int .i64 a.2.2]) hM38 (by kernel_rfl) (F_load 4 0 (.agg #[.int .i64 b.1, .int .i64 b.2.1, .int .i64 b.2.2]) hM38 (by kernel_rfl) (F_call (s_umbraref20_Sub a b) (fun r : Int × Int × Int => .agg #[.int .i64 r.1, .int .i64 r.2.1, .int .i64 r.2.2]) hM38 hL41 (fun w' hM' => w_umbraref20_Sub a b w') (by kernel_rfl) (fun _ => by kernel_rfl) (fun r44 h45 => ?_)))))))))))
  have HR := hr_lt HR h43
  have HR := hr_lt HR h45
  refine F_dec ((r42 : Int × Int × Int) = r44) (fun _ => eqv_umbra_api_Point (x := r42) (y := r44) (by kernel_rfl) (by kernel_rfl) (by kernel_rfl)) (fun c46 => ?_) (fun c46 => ?_)
  · refine F_val (.bool true) (fun _ => by kernel_rfl) (F_load 5 0 (.agg #[.int .i64 a.1, .int .i64 a.2.1, .int .i64 a.2.2]) hM38 (by kernel_rfl) (F_load 4 0 (.agg #[.int .i64 b.1, .int .i64 b.2.1, .int .i64 b.2.2]) hM38 (by kernel_rfl) (F_call (s_tri_Cross a b) (fun r : Int × Int × Int => .agg #[.int .i64 r.1, .int .i64 r.2.1, .int .i64 r.2.2]) hM38 hL41 (fun w' hM' => w_tri_Cross a b w') (by kernel_rfl) (fun _ => by kernel_rfl) (fun r47 h48 => F_load 5 0 (.agg #[.int .i64 a.1, .int .i64 a.2.1, .int .i64 a.2.2]) hM38 (by kernel_rfl) (F_load 4 0 (.agg #[.int .i64 b.1, .int .i64 b.2.1, .int .i64 b.2.2]) hM38 (by kernel_rfl) (F_call (s_umbraref20_Cross a b) (fun r : Int × Int × Int => .agg #[.int .i64 r.1, .int .i64 r.2.1, .int .i64 r.2.2]) hM38 hL41 (fun w' hM' => w_umbraref20_Cross a b w') (by kernel_rfl) (fun _ => by kernel_rfl) (fun r49 h50 => ?_)))))))
    have HR := hr_pos HR c46
    have HR := hr_lt HR h48
    have HR := hr_lt HR h50
    refine F_dec ((r47 : Int × Int × Int) = r49) (fun _ => eqv_umbra_api_Point (x := r47) (y := r49) (by kernel_rfl) (by kernel_rfl) (by kernel_rfl)) (fun c51 => ?_) (fun c51 => ?_)
    · refine F_val (.bool true) (fun _ => by kernel_rfl) (F_val (.bool true) (fun _ => by kernel_rfl) (F_load 5 0 (.agg #[.int .i64 a.1, .int .i64 a.2.1, .int .i64 a.2.2]) hM38 (by kernel_rfl) (F_load 4 0 (.agg #[.int .i64 b.1, .int .i64 b.2.1, .int .i64 b.2.2]) hM38 (by kernel_rfl) (F_call (s_tri_Dot a b) (fun r : Int => .int .i64 r) hM38 hL41 (fun w' hM' => w_tri_Dot a b w') (by kernel_rfl) (fun _ => by kernel_rfl) (fun r52 h53 => F_load 5 0 (.agg #[.int .i64 a.1, .int .i64 a.2.1, .int .i64 a.2.2]) hM38 (by kernel_rfl) (F_load 4 0 (.agg #[.int .i64 b.1, .int .i64 b.2.1, .int .i64 b.2.2]) hM38 (by kernel_rfl) (F_call (s_umbraref20_Dot a b) (fun r : Int => .int .i64 r) hM38 hL41 (fun w' hM' => w_umbraref20_Dot a b w') (by kernel_rfl) (fun _ => by kernel_rfl) (fun r54 h55 => ?_))))))))
      have HR := hr_pos HR c51
      have HR := hr_lt HR h53
      have HR := hr_lt HR h55
      refine F_dec (r52 = r54) (fun _ => by kernel_rfl) (fun c56 => ?_) (fun c56 => ?_)
      · refine F_val (.bool true) (fun _ => by kernel_rfl) (F_val (.bool true) (fun _ => by kernel_rfl) (F_load 3 0 (.agg #[.int .i64 r11.1.1, .int .i64 r11.1.2.1, .int .i64 r11.1.2.2]) hM38 (by kernel_rfl) (F_load 1 0 (.agg #[.int .i64 r25.1.1, .int .i64 r25.1.2.1, .int .i64 r25.1.2.2]) hM38 (by kernel_rfl) (?_))))
        have HR := hr_pos HR c56
        refine F_dec ((r11.1 : Int × Int × Int) = r25.1) (fun _ => eqv_umbra_api_Point (x := r11.1) (y := r25.1) (by kernel_rfl) (by kernel_rfl) (by kernel_rfl)) (fun c57 => ?_) (fun c57 => ?_)
        · refine F_val (.bool true) (fun _ => by kernel_rfl) (F_val (.bool true) (fun _ => by kernel_rfl) (F_load 2 0 (.agg #[.int .i64 r11.2.1, .int .i64 r11.2.2.1, .int .i64 r11.2.2.2]) hM38 (by kernel_rfl) (F_load 0 0 (.agg #[.int .i64 r25.2.1, .int .i64 r25.2.2.1, .int .i64 r25.2.2.2]) hM38 (by kernel_rfl) (?_))))
          have HR := hr_pos HR c57
          refine F_dec ((r11.2 : Int × Int × Int) = r25.2) (fun _ => eqv_umbra_api_Point (x := r11.2) (y := r25.2) (by kernel_rfl) (by kernel_rfl) (by kernel_rfl)) (fun c58 => ?_) (fun c58 => ?_)
          · refine F_val (.bool true) (fun _ => by kernel_rfl) (F_val (.bool true) (fun _ => by kernel_rfl) (F_call (s_umbralaw20_works ) (fun r : Bool => .bool r) hM38 hL41 (fun w' hM' => w_umbralaw20_works  w') (by kernel_rfl) (fun _ => by kernel_rfl) (fun r59 h60 => ?_)))
            have HR := hr_pos HR c58
            have HR := hr_lt HR h60
            cases r59
            · refine F_val (.bool false) (fun _ => by kernel_rfl) (F_val (.bool false) (fun _ => by kernel_rfl) (F_nil hM38 hL41 (fun w61 hM62 => S_nil (?_))))
              have HR := hr_neg HR Bool.false_ne_true
              refine R_ret hM62 rfl (.cons (.tmp _ (.bool false) (by kernel_rfl)) .nil) rfl ?_
              exact ⟨congrArg Ending.returned HR, hM62.below⟩
            · refine F_val (.bool true) (fun _ => by kernel_rfl) (F_val (.bool true) (fun _ => by kernel_rfl) (F_nil hM38 hL41 (fun w63 hM64 => S_nil (?_))))
              have HR := hr_pos HR rfl
              refine R_ret hM64 rfl (.cons (.tmp _ (.bool true) (by kernel_rfl)) .nil) rfl ?_
              exact ⟨congrArg Ending.returned HR, hM64.below⟩
          · refine F_val (.bool false) (fun _ => by kernel_rfl) (F_val (.bool false) (fun _ => by kernel_rfl) (F_skip (by kernel_rfl) (F_val (.bool false) (fun _ => by kernel_rfl) (F_val (.bool false) (fun _ => by kernel_rfl) (F_nil hM38 hL41 (fun w66 hM67 => S_nil (?_)))))))
            have HR := hr_neg HR c58
            refine R_ret hM67 rfl (.cons (.tmp _ (.bool false) (by kernel_rfl)) .nil) rfl ?_
            exact ⟨congrArg Ending.returned HR, hM67.below⟩
        · refine F_val (.bool false) (fun _ => by kernel_rfl) (F_val (.bool false) (fun _ => by kernel_rfl) (F_skip (by kernel_rfl) (F_skip (by kernel_rfl) (F_skip (by kernel_rfl) (F_val (.bool false) (fun _ => by kernel_rfl) (F_val (.bool false) (fun _ => by kernel_rfl) (F_skip (by kernel_rfl) (F_val (.bool false) (fun _ => by kernel_rfl) (F_val (.bool false) (fun _ => by kernel_rfl) (F_nil hM38 hL41 (fun w68 hM69 => S_nil (?_))))))))))))
          have HR := hr_neg HR c57
          refine R_ret hM69 rfl (.cons (.tmp _ (.bool false) (by kernel_rfl)) .nil) rfl ?_
          exact ⟨congrArg Ending.returned HR, hM69.below⟩
      · refine F_val (.bool false) (fun _ => by kernel_rfl) (F_val (.bool false) (fun _ => by kernel_rfl) (F_skip (by kernel_rfl) (F_skip (by kernel_rfl) (F_skip (by kernel_rfl) (F_val (.bool false) (fun _ => by kernel_rfl) (F_val (.bool false) (fun _ => by kernel_rfl) (F_skip (by kernel_rfl) (F_skip (by kernel_rfl) (F_skip (by kernel_rfl) (F_val (.bool false) (fun _ => by kernel_rfl) (F_val (.bool false) (fun _ => by kernel_rfl) (?_))))))))))))
        have HR := hr_neg HR c56
        refine F_skip (by kernel_rfl) (F_val (.bool false) (fun _ => by kernel_rfl) (F_val (.bool false) (fun _ => by kernel_rfl) (F_nil hM38 hL41 (fun w70 hM71 => S_nil (?_)))))
        refine R_ret hM71 rfl (.cons (.tmp _ (.bool false) (by kernel_rfl)) .nil) rfl ?_
        exact ⟨congrArg Ending.returned HR, hM71.below⟩
    · refine F_val (.bool false) (fun _ => by kernel_rfl) (F_val (.bool false) (fun _ => by kernel_rfl) (F_skip (by kernel_rfl) (F_skip (by kernel_rfl) (F_skip (by kernel_rfl) (F_skip (by kernel_rfl) (F_skip (by kernel_rfl) (F_skip (by kernel_rfl) (F_skip (by kernel_rfl) (F_val (.bool false) (fun _ => by kernel_rfl) (F_val (.bool false) (fun _ => by kernel_rfl) (F_skip (by kernel_rfl) (?_))))))))))))
      have HR := hr_neg HR c51
      refine F_skip (by kernel_rfl) (F_skip (by kernel_rfl) (F_val (.bool false) (fun _ => by kernel_rfl) (F_val (.bool false) (fun _ => by kernel_rfl) (F_skip (by kernel_rfl) (F_skip (by kernel_rfl) (F_skip (by kernel_rfl) (F_val (.bool false) (fun _ => by kernel_rfl) (F_val (.bool false) (fun _ => by kernel_rfl) (F_skip (by kernel_rfl) (F_val (.bool false) (fun _ => by kernel_rfl) (F_val (.bool false) (fun _ => by kernel_rfl) (?_))))))))))))
      refine F_nil hM38 hL41 (fun w72 hM73 => S_nil (?_))
      refine R_ret hM73 rfl (.cons (.tmp _ (.bool false) (by kernel_rfl)) .nil) rfl ?_
      exact ⟨congrArg Ending.returned HR, hM73.below⟩
  · refine F_val (.bool false) (fun _ => by kernel_rfl) (F_skip (by kernel_rfl) (F_skip (by kernel_rfl) (F_skip (by kernel_rfl) (F_skip (by kernel_rfl) (F_skip (by kernel_rfl) (F_skip (by kernel_rfl) (F_skip (by kernel_rfl) (F_val (.bool false) (fun _ => by kernel_rfl) (F_val (.bool false) (fun _ => by kernel_rfl) (F_skip (by kernel_rfl) (F_skip (by kernel_rfl) (?_))))))))))))
    have HR := hr_neg HR c46
    refine F_skip (by kernel_rfl) (F_skip (by kernel_rfl) (F_skip (by kernel_rfl) (F_skip (by kernel_rfl) (F_skip (by kernel_rfl) (F_val (.bool false) (fun _ => by kernel_rfl) (F_val (.bool false) (fun _ => by kernel_rfl) (F_skip (by kernel_rfl) (F_skip (by kernel_rfl) (F_skip (by kernel_rfl) (F_val (.bool false) (fun _ => by kernel_rfl) (F_val (.bool false) (fun _ => by kernel_rfl) (?_))))))))))))
    refine F_skip (by kernel_rfl) (F_skip (by kernel_rfl) (F_skip (by kernel_rfl) (F_val (.bool false) (fun _ => by kernel_rfl) (F_val (.bool false) (fun _ => by kernel_rfl) (F_skip (by kernel_rfl) (F_val (.bool false) (fun _ => by kernel_rfl) (F_val (.bool false) (fun _ => by kernel_rfl) (F_nil hM38 hL41 (fun w74 hM75 => S_nil (?_))))))))))
    refine R_ret hM75 rfl (.cons (.tmp _ (.bool false) (by kernel_rfl)) .nil) rfl ?_
    exact ⟨congrArg Ending.returned HR, hM75.below⟩

end Go.Proofs.Ytbfgmedjogjkeaa

namespace Go.Proofs.Ytbfgmedjogjkeaa
open Go.RowKit Go.Sort
set_option linter.unusedVariables false
set_option linter.unusedSimpArgs false

theorem boxes (l : List T3) (hl : (l.length : Int) ≤ 1000) : ∀ (f : Nat) (k : Int) (lo hi : T3), 1 ≤ k → L2_tri_Box l f k lo hi = L5_umbraref20_Box l f k lo hi
  | 0, _, _, _, _ => rfl
  | f + 1, k, lo, hi, hk => by
    rw [L2_tri_Box, L5_umbraref20_Box]
    by_cases h : k < (l.length : Int)
    · rw [if_pos h, if_pos h, if_neg (show ¬ k = 0 by omega)]
      simp only [lt]
      exact boxes l hl f _ _ _ (by rw [wrI]; unfold wrap64; omega)
    · rw [if_neg h, if_neg h]
theorem gmin_self (x : Int) : gmin x x = x := by unfold gmin; split <;> rfl
theorem gmax_self (x : Int) : gmax x x = x := by unfold gmax; split <;> rfl
theorem box_eq (l : List T3) (hl : (l.length : Int) ≤ 1000) : s_tri_Box l = s_umbraref20_Box l := by
  unfold s_tri_Box s_umbraref20_Box
  by_cases h : (l.length : Int) = 0
  · rw [if_pos h, h]
    rw [show Int.toNat ((0 : Int) - 0) + 1 = 0 + 1 from rfl, L2_tri_Box, if_neg (by omega)]
  · rw [if_neg h]
    obtain ⟨m, hm⟩ : ∃ m : Nat, Int.toNat ((l.length : Int) - 0) = m + 1 := ⟨l.length - 1, by omega⟩
    have h1 : Int.toNat ((l.length : Int) - 1) + 1 = m + 1 := by omega
    rw [hm, h1, L2_tri_Box, if_pos (by omega), if_pos rfl]
    simp only [lt, gmin_self, gmax_self]
    exact boxes l hl _ _ _ _ (by decide)
theorem TriPoints_law (l : List T3) (a b : T3) : s_umbralaw20_TriPoints l a b = true := by
  unfold s_umbralaw20_TriPoints
  simp only [lt]
  rw [box_eq _ (by rw [List.length_take, gmin_eq]; omega)]
  rw [if_pos (show s_tri_Sub a b = s_umbraref20_Sub a b from rfl), if_pos (show s_tri_Cross a b = s_umbraref20_Cross a b from rfl), if_pos (show s_tri_Dot a b = s_umbraref20_Dot a b from rfl), if_pos works20_true]
  rw [if_pos rfl, if_pos rfl]
theorem lawTriPoints {w : World} (ns0 : List Int) (h0 : Al2 Fits [.i64, .i64, .i64] ns0) (ns1 : List Int) (h1 : Al2 Fits [.i64, .i64, .i64] ns1) (A : Option Addr) (n cap : Nat) (l : List T3) (hn : n ≤ cap) (hc : cap ≤ maxLen) (hr : RdV w A n l) (hI : ∀ x ∈ l, InV x) :
    Calls Try.prog 15 #[.agg (vals [.i64, .i64, .i64] ns0).toArray, .agg (vals [.i64, .i64, .i64] ns1).toArray, .slice A n cap] w (Ret (.bool true) w) := by
  obtain ⟨b0_0, l0_0, rfl, f0_0, h0⟩ := al2_cons h0
  obtain ⟨b0_1, l0_1, rfl, f0_1, h0⟩ := al2_cons h0
  obtain ⟨b0_2, l0_2, rfl, f0_2, h0⟩ := al2_cons h0
  obtain rfl := al2_nil h0
  obtain ⟨b1_0, l1_0, rfl, f1_0, h1⟩ := al2_cons h1
  obtain ⟨b1_1, l1_1, rfl, f1_1, h1⟩ := al2_cons h1
  obtain ⟨b1_2, l1_2, rfl, f1_2, h1⟩ := al2_cons h1
  obtain rfl := al2_nil h1
  obtain ⟨rfl, hR⟩ := hr.rd
  have hw := w_umbralaw20_TriPoints l (b0_0, b0_1, b0_2) (b1_0, b1_1, b1_2) w A cap hR (by omega)
  rw [TriPoints_law] at hw
  exact hw
end Go.Proofs.Ytbfgmedjogjkeaa
