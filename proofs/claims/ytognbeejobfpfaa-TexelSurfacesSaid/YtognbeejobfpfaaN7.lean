/- Walks by value: Of, Minus, Less, ToInt, Clamp. -/
import Derived.Test.YtognbeejobfpfaaMN
namespace Go.Proofs.Ytognbeejobfpfaa
open Go.RowKit Go.Sort
set_option linter.unusedVariables false
set_option linter.unusedSimpArgs false

theorem nv_nb {b : Bool} {l : List Int} {x : Int} (h : NC b l x) (hx : -2037035976334486086268445688409378161051468393665936250636140449354381299763336706183397376 ≤ x ∧ x ≤ 2037035976334486086268445688409378161051468393665936250636140449354381299763336706183397376) : NV b l x := nv_nc h hx
theorem nv_not {b : Bool} {l : List Int} {x : Int} (h : NC b l x) (hx : -2037035976334486086268445688409378161051468393665936250636140449354381299763336706183397376 ≤ x ∧ x ≤ 2037035976334486086268445688409378161051468393665936250636140449354381299763336706183397376) : NV (!b) l (-x) := by
  have := nv_nb h hx
  refine ⟨this.dg, this.len, ?_⟩
  have hv := this.val
  unfold nval at *
  cases b <;> simp at hv ⊢ <;> omega
def toI (x : Int) : Int × Bool := if -9223372036854775808 ≤ x ∧ x < 9223372036854775808 then (x, true) else (0, false)
theorem dg_0 (x : Int) : dg x 0 = absI x % 65536 := by unfold dg; rw [show (65536 : Int) ^ Int.toNat 0 = 1 by rfl, Int.ediv_one]
theorem dg_1 (x : Int) : dg x 1 = absI x / 65536 % 65536 := by unfold dg; rw [show (65536 : Int) ^ Int.toNat 1 = 65536 by rfl]
theorem dg_2 (x : Int) : dg x 2 = absI x / 4294967296 % 65536 := by unfold dg; rw [show (65536 : Int) ^ Int.toNat 2 = 4294967296 by rfl]
theorem dg_3 (x : Int) : dg x 3 = absI x / 281474976710656 % 65536 := by unfold dg; rw [show (65536 : Int) ^ Int.toNat 3 = 281474976710656 by rfl]
theorem sg_gt {x : Int} : sg x > 0 ↔ x > 0 := by unfold sg; constructor <;> intro h <;> (repeat' split at *) <;> omega
theorem sg_lt {x : Int} : sg x < 0 ↔ x < 0 := by unfold sg; constructor <;> intro h <;> (repeat' split at *) <;> omega
theorem sg_z {x : Int} : sg x = 0 ↔ x = 0 := by unfold sg; constructor <;> intro h <;> (repeat' split at *) <;> omega
theorem sg_le {x : Int} : sg x ≤ 0 ↔ x ≤ 0 := by unfold sg; constructor <;> intro h <;> (repeat' split at *) <;> omega
theorem sg_ge {x : Int} : sg x ≥ 0 ↔ x ≥ 0 := by unfold sg; constructor <;> intro h <;> (repeat' split at *) <;> omega
theorem tI_lo {x : Int} (h : absI x ≤ 9223372036854775808) : absI x = ((dg x 3 * 65536 + dg x 2) * 65536 + dg x 1) * 65536 + dg x 0 ∧ (0 ≤ dg x 3 ∧ dg x 3 ≤ 32768) ∧ (0 ≤ dg x 2 ∧ dg x 2 ≤ 65535) ∧ (0 ≤ dg x 1 ∧ dg x 1 ≤ 65535) ∧ (0 ≤ dg x 0 ∧ dg x 0 ≤ 65535) := by
  rw [dg_0, dg_1, dg_2, dg_3]
  have := absI_nn x
  generalize absI x = a at *
  omega
theorem toI_pos {x r3 r2 r1 r0 a b1 b c1 c d1 d : Int} (h : 0 ≤ x ∧ x < 9223372036854775808) (e3 : dg x 3 = r3) (e2 : dg x 2 = r2) (e1 : dg x 1 = r1) (e0 : dg x 0 = r0) (h1 : IntKind.i64.wrap (0 + r3) = a) (h2 : IntKind.i64.wrap (a * 65536) = b1) (h3 : IntKind.i64.wrap (b1 + r2) = b)
    (h4 : IntKind.i64.wrap (b * 65536) = c1) (h5 : IntKind.i64.wrap (c1 + r1) = c) (h6 : IntKind.i64.wrap (c * 65536) = d1) (h7 : IntKind.i64.wrap (d1 + r0) = d) : d = x := by
  obtain ⟨k, k3, k2, k1, k0⟩ := tI_lo (x := x) (by rw [absI_eq]; omega)
  rw [absI_pos h.1] at k
  rw [e3, e2, e1, e0] at k
  rw [e3] at k3; rw [e2] at k2; rw [e1] at k1; rw [e0] at k0
  clear e3 e2 e1 e0
  rw [wrI, w64' (by omega)] at h1; subst h1
  rw [wrI, w64' (by omega)] at h2; subst h2
  rw [wrI, w64' (by omega)] at h3; subst h3
  rw [wrI, w64' (by omega)] at h4; subst h4
  rw [wrI, w64' (by omega)] at h5; subst h5
  rw [wrI, w64' (by omega)] at h6; subst h6
  rw [wrI, w64' (by omega)] at h7; subst h7
  omega
theorem toI_neg {x r3 r2 r1 r0 a0 a b0 b1 b c0 c1 c d0 d1 d : Int} (h : -9223372036854775808 ≤ x ∧ x < 0) (e3 : dg x 3 = r3) (e2 : dg x 2 = r2) (e1 : dg x 1 = r1) (e0 : dg x 0 = r0) (h0 : IntKind.i64.wrap (0 - r3) = a0) (h1 : IntKind.i64.wrap (0 + a0) = a)
    (g2 : IntKind.i64.wrap (0 - r2) = b0) (h2 : IntKind.i64.wrap (a * 65536) = b1) (h3 : IntKind.i64.wrap (b1 + b0) = b) (g1 : IntKind.i64.wrap (0 - r1) = c0) (h4 : IntKind.i64.wrap (b * 65536) = c1) (h5 : IntKind.i64.wrap (c1 + c0) = c) (g0 : IntKind.i64.wrap (0 - r0) = d0) (h6 : IntKind.i64.wrap (c * 65536) = d1) (h7 : IntKind.i64.wrap (d1 + d0) = d) : d = x := by
  obtain ⟨k, k3, k2, k1, k0⟩ := tI_lo (x := x) (by rw [absI_eq]; omega)
  have hx : absI x = -x := by rw [absI_eq]; omega
  rw [hx] at k
  rw [e3, e2, e1, e0] at k
  rw [e3] at k3; rw [e2] at k2; rw [e1] at k1; rw [e0] at k0
  clear e3 e2 e1 e0 hx
  rw [wrI, w64' (by omega)] at h0; subst h0
  rw [wrI, w64' (by omega)] at h1; subst h1
  rw [wrI, w64' (by omega)] at g2; subst g2
  rw [wrI, w64' (by omega)] at h2; subst h2
  rw [wrI, w64' (by omega)] at h3; subst h3
  rw [wrI, w64' (by omega)] at g1; subst g1
  rw [wrI, w64' (by omega)] at h4; subst h4
  rw [wrI, w64' (by omega)] at h5; subst h5
  rw [wrI, w64' (by omega)] at g0; subst g0
  rw [wrI, w64' (by omega)] at h6; subst h6
  rw [wrI, w64' (by omega)] at h7; subst h7
  omega

set_option maxRecDepth 100000 in
set_option maxHeartbeats 4000000 in
theorem k_Of (n : Int) (h_n : InI n) (w : World)  : Calls Try.prog 57 #[.int .i64 n] w (RetN w [] (nm n)) := by
  have hM0 := St.startN (w := w) [] ents0
  refine calls_run Try.func57 rfl ?_
  refine R_seq (R_region (S_fresh none #[.bool false, .slice none 0 0] 113 hM0 (by kernel_rfl) (fun g1 w2 hM3 => S_nil (R_seq (R_seq (R_region (S_val (.int .i64 n) (by kernel_rfl) (?_))))))))
  refine S_dec (n < 0) (by kernel_rfl) (fun c4 => ?_) (fun c4 => ?_)
  · refine S_nil (R_yes (by kernel_rfl) (R_seq (R_region (S_val (.int .i64 n) (by kernel_rfl) (S_int (IntKind.i64.wrap (n + 1)) .i64 (by kernel_rfl) (fun x5 h6 => S_int (IntKind.i64.wrap (0 - x5)) .i64 (by kernel_rfl) (fun x7 h8 => S_int (IntKind.u64.wrap x7) .u64 (by kernel_rfl) (fun x9 h10 => S_int (IntKind.u64.wrap (x9 + 1)) .u64 (by kernel_rfl) (fun x11 h12 => S_callB (x11) [] hM3 (k_From x11 (wr_u64 h12) w2) sub0 (by kernel_rfl) (fun x13 h14 b15 l16 hn17 A18 cap19 hc20 w21 hM22 => S_val (.slice A18 (List.length l16) cap19) (by kernel_rfl) (S_val (.agg #[.bool true, .slice A18 (List.length l16) cap19]) (by kernel_rfl) (?_))))))))))))
    refine S_store 0 0 #[.bool true, .slice A18 (List.length l16) cap19] hM22 (by kernel_rfl) (fun w23 hM24 => S_nil (?_))
    refine R_ret hM24 rfl (.cons (.cell _ _ 0 0 (.agg #[.bool true, .slice A18 (List.length l16) cap19]) (by kernel_rfl)) .nil) rfl ?_
    simp only [wrI, wrU] at *
    unfold InI at *
    try unfold wrap64 at *
    exact hM24.retN 0 rfl rfl hc20 (nc_eq (nc_neg hn17 (by omega)) (by (try simp only [absI_eq] at *); omega))
  · refine S_nil (R_no (by kernel_rfl) (R_skip (R_seq (R_region (S_val (.int .i64 n) (by kernel_rfl) (S_int (IntKind.u64.wrap n) .u64 (by kernel_rfl) (fun x25 h26 => S_callB (x25) [] hM3 (k_From x25 (wr_u64 h26) w2) sub0 (by kernel_rfl) (fun x27 h28 b29 l30 hn31 A32 cap33 hc34 w35 hM36 => S_store 0 0 #[.bool b29, .slice A32 (List.length l30) cap33] hM36 (by kernel_rfl) (fun w37 hM38 => S_nil (?_))))))))))
    refine R_ret hM38 rfl (.cons (.cell _ _ 0 0 (.agg #[.bool b29, .slice A32 (List.length l30) cap33]) (by kernel_rfl)) .nil) rfl ?_
    simp only [wrI, wrU] at *
    unfold InI at *
    try unfold wrap64 at *
    exact hM38.retN 0 rfl rfl hc34 (nc_eq hn31 (by (try simp only [absI_eq] at *); omega))

set_option maxRecDepth 100000 in
set_option maxHeartbeats 4000000 in
theorem k_Minus (bP : Bool) (lP : List Int) (xP : Int) (hNP : NC bP lP xP) (AP : Option Addr) (nP cP : Nat) (hnP : nP = List.length lP) (hcP : nP ≤ cP) (hbP : -1809251394333065553493296640760748560207343510400633813116524750123642650624 ≤ xP ∧ xP ≤ 1809251394333065553493296640760748560207343510400633813116524750123642650624) (w : World) (hAP : Ent w (AP, nv lP)) : Calls Try.prog 92 #[.agg #[.bool bP, .slice AP nP cP]] w (RetN w [(AP, nv lP)] (nm (-xP))) := by
  subst hnP
  have hM0 := St.startN (w := w) [(AP, nv lP)] (ents hAP ents0)
  refine calls_run Try.func92 rfl ?_
  refine R_seq (R_region (S_fresh none #[.bool bP, .slice AP (List.length lP) cP] 113 hM0 (by kernel_rfl) (fun g1 w2 hM3 => S_fresh none #[.bool false, .slice none 0 0] 113 hM3 (by kernel_rfl) (fun g4 w5 hM6 => S_nil (R_seq (R_region (S_val (.pointer (some ⟨g1, 0, none⟩)) (by kernel_rfl) (S_load 1 0 (.bool bP) hM6 (by kernel_rfl) (S_val (.bool (!bP)) (by kernel_rfl) (S_val (.pointer (some ⟨g1, 1, none⟩)) (by kernel_rfl) (S_load 1 1 (.slice AP (List.length lP) cP) hM6 (by kernel_rfl) (?_))))))))))))
  refine S_val (.agg #[.bool (!bP), .slice AP (List.length lP) cP]) (by kernel_rfl) (S_callB ((-xP)) [(AP, nv lP)] hM6 (k_trim (!bP) lP (-xP) (nv_not hNP (by omega)) AP (List.length lP) cP rfl hcP w5 (hM6.ent 1 rfl)) (subc 1 rfl sub0) (by kernel_rfl) (fun x7 h8 b9 l10 hn11 A12 cap13 hc14 w15 hM16 => S_store 0 0 #[.bool b9, .slice A12 (List.length l10) cap13] hM16 (by kernel_rfl) (fun w17 hM18 => S_nil (?_))))
  refine R_ret hM18 rfl (.cons (.cell _ _ 0 0 (.agg #[.bool b9, .slice A12 (List.length l10) cap13]) (by kernel_rfl)) .nil) rfl ?_
  exact hM18.retN 0 rfl rfl hc14 (nc_eq hn11 (by omega))

def e_umbraref01_ToInt (r : Int × Bool) : Value := .tuple #[.int .i64 r.1, .bool r.2]
set_option maxRecDepth 100000 in
set_option maxHeartbeats 4000000 in
theorem k_ToInt (bP : Bool) (lP : List Int) (xP : Int) (hNP : NC bP lP xP) (AP : Option Addr) (nP cP : Nat) (hnP : nP = List.length lP) (hcP : nP ≤ cP) (hbP : -1809251394333065553493296640760748560207343510400633813116524750123642650624 ≤ xP ∧ xP ≤ 1809251394333065553493296640760748560207343510400633813116524750123642650624) (w : World) (hAP : Ent w (AP, nv lP)) : Calls Try.prog 90 #[.agg #[.bool bP, .slice AP nP cP]] w (Ret (e_umbraref01_ToInt (toI xP)) w) := by
  subst hnP
  have hM0 := St.startN (w := w) [(AP, nv lP)] (ents hAP ents0)
  refine calls_run Try.func90 rfl ?_
  have aP := absI_eq xP
  refine R_seq (R_region (S_fresh none #[.bool bP, .slice AP (List.length lP) cP] 113 hM0 (by kernel_rfl) (fun g1 w2 hM3 => S_val (.int .i64 0) (by kernel_rfl) (S_val (.bool false) (by kernel_rfl) (S_nil (R_seq (R_seq (R_drawH ⟨w, [(AP, nv lP)], [(none, nv ([])), (AP, nv lP)]⟩ 15 (by kernel_rfl) (fun F4 U5 hL6 => H_load 0 0 (.agg #[.bool bP, .slice AP (List.length lP) cP]) hM3 (by kernel_rfl) (H_callB (2 ^ Int.toNat 63) [] hM3 hL6 (fun w' hM' => k_Power 63 (by omega) w') sub0 (by kernel_rfl) (fun _ => by kernel_rfl) (fun x7 h8 b9 l10 hn11 A12 cap13 hc14 F15 U16 hL17 => ?_)))))))))))
  have p_x7 : x7 = 9223372036854775808 := h8.symm.trans (by decide +kernel)
  have a_x7 := absI_eq x7
  refine H_call (sg (absI xP - absI x7)) (fun r : Int => .int .i64 r) hM3 hL17 (fun w' hM' => k_size bP lP xP b9 l10 x7 (nv_nb hNP (by omega)) (nv_nb hn11 (by omega)) AP (List.length lP) cP A12 (List.length l10) cap13 rfl hcP rfl hc14 w' (hM'.ent 2 rfl) (hM'.ent 0 rfl)) (by kernel_rfl) (fun _ => by kernel_rfl) (fun r18 h19 F20 U21 hL22 => ?_)
  refine H_dec (r18 > 0) (fun _ => by kernel_rfl) (fun c23 => ?_) (fun c23 => ?_)
  · refine H_val (.bool true) (fun _ => by kernel_rfl) (H_skip (by kernel_rfl) (H_skip (by kernel_rfl) (H_skip (by kernel_rfl) (H_skip (by kernel_rfl) (H_skip (by kernel_rfl) (H_skip (by kernel_rfl) (H_skip (by kernel_rfl) (H_skip (by kernel_rfl) (H_skip (by kernel_rfl) (H_val (.bool true) (fun _ => by kernel_rfl) (H_nil hM3 hL22 (fun w24 hM25 => ?_))))))))))))
    refine S_nil (R_yes (by kernel_rfl) (R_seq (R_region (S_val (.int .i64 0) (by kernel_rfl) (S_val (.bool false) (by kernel_rfl) (S_nil (?_)))))))
    refine R_ret hM25 rfl (.cons (.tmp _ (.int .i64 0) (by kernel_rfl)) (.cons (.tmp _ (.bool false) (by kernel_rfl)) .nil)) rfl ?_
    have s_c23 : (absI xP - absI x7) > 0 := sg_gt.1 (h19.symm ▸ c23)
    exact ⟨congrArg (fun r => Ending.returned (e_umbraref01_ToInt r)) (show (0, false) = toI xP from (by unfold toI; rw [if_neg (by omega)])), hM25.below⟩
  · refine H_val (.bool false) (fun _ => by kernel_rfl) (H_load 0 0 (.agg #[.bool bP, .slice AP (List.length lP) cP]) hM3 (by kernel_rfl) (H_callB (2 ^ Int.toNat 63) [] hM3 hL22 (fun w' hM' => k_Power 63 (by omega) w') sub0 (by kernel_rfl) (fun _ => by kernel_rfl) (fun x26 h27 b28 l29 hn30 A31 cap32 hc33 F34 U35 hL36 => ?_)))
    have p_x26 : x26 = 9223372036854775808 := h27.symm.trans (by decide +kernel)
    have a_x26 := absI_eq x26
    refine H_call (sg (absI xP - absI x26)) (fun r : Int => .int .i64 r) hM3 hL36 (fun w' hM' => k_size bP lP xP b28 l29 x26 (nv_nb hNP (by omega)) (nv_nb hn30 (by omega)) AP (List.length lP) cP A31 (List.length l29) cap32 rfl hcP rfl hc33 w' (hM'.ent 3 rfl) (hM'.ent 0 rfl)) (by kernel_rfl) (fun _ => by kernel_rfl) (fun r37 h38 F39 U40 hL41 => ?_)
    refine H_dec (r37 = 0) (fun _ => by kernel_rfl) (fun c42 => ?_) (fun c42 => ?_)
    · refine H_val (.bool true) (fun _ => by kernel_rfl) (H_val (.pointer (some ⟨g1, 0, none⟩)) (fun _ => by kernel_rfl) (H_load 0 0 (.bool bP) hM3 (by kernel_rfl) (H_val (.bool (!bP)) (fun _ => by kernel_rfl) (H_val (.bool (!bP)) (fun _ => by kernel_rfl) (H_val (.bool (!bP)) (fun _ => by kernel_rfl) (H_nil hM3 hL41 (fun w43 hM44 => S_nil (?_))))))))
      refine R_if (!bP) (by kernel_rfl) (fun c45 => ?_) (fun c45 => ?_)
      · refine R_seq (R_region (S_val (.int .i64 0) (by kernel_rfl) (S_val (.bool false) (by kernel_rfl) (S_nil (?_)))))
        refine R_ret hM44 rfl (.cons (.tmp _ (.int .i64 0) (by kernel_rfl)) (.cons (.tmp _ (.bool false) (by kernel_rfl)) .nil)) rfl ?_
        have e_c45 : ¬ xP < 0 := nc_bf hNP (by simpa using c45)
        have s_c23 : ¬ ((absI xP - absI x7) > 0) := fun q => c23 (h19 ▸ sg_gt.2 q)
        have s_c42 : (absI xP - absI x26) = 0 := sg_z.1 (h38.symm ▸ c42)
        exact ⟨congrArg (fun r => Ending.returned (e_umbraref01_ToInt r)) (show (0, false) = toI xP from (by unfold toI; rw [if_neg (by omega)])), hM44.below⟩
      · refine R_skip (R_seq (R_region (S_val (.int .i64 0) (by kernel_rfl) (S_nil (R_seq (R_seq (R_region (S_val (.int .i64 3) (by kernel_rfl) (S_nil (R_block (R_loop (?_))))))))))))
        refine R_seq (R_seq (R_region (S_val (.int .i64 3) (by kernel_rfl) (S_val (.bool true) (by kernel_rfl) (S_nil (R_yes (by kernel_rfl) (R_skip (R_seq (R_block (R_seq (R_region (?_))))))))))))
        refine S_load 0 0 (.agg #[.bool bP, .slice AP (List.length lP) cP]) hM44 (by kernel_rfl) (S_val (.int .i64 3) (by kernel_rfl) (S_call (dg xP 3) (fun r : Int => .int .i64 r) hM44 (k_digit bP lP xP 3 (nv_nb hNP (by omega)) AP (List.length lP) cP rfl hcP (by omega) w43 (hM44.ent 3 rfl)) (by kernel_rfl) (fun r46 h47 w48 hM49 => S_val (.int .i64 r46) (by kernel_rfl) (S_nil (R_seq (R_seq (R_region (S_val (.pointer (some ⟨g1, 0, none⟩)) (by kernel_rfl) (S_load 0 0 (.bool bP) hM49 (by kernel_rfl) (S_nil (?_)))))))))))
        refine R_if bP (by kernel_rfl) (fun c50 => ?_) (fun c50 => ?_)
        · refine R_region (S_val (.int .i64 r46) (by kernel_rfl) (S_int (IntKind.i64.wrap (0 - r46)) .i64 (by kernel_rfl) (fun x51 h52 => S_val (.int .i64 x51) (by kernel_rfl) (S_nil (R_region (S_val (.int .i64 0) (by kernel_rfl) (S_val (.int .i64 0) (by kernel_rfl) (S_val (.int .i64 x51) (by kernel_rfl) (S_int (IntKind.i64.wrap (0 + x51)) .i64 (by kernel_rfl) (fun x53 h54 => S_val (.int .i64 x53) (by kernel_rfl) (S_nil (?_))))))))))))
          refine R_inBlock (R_region (S_val (.int .i64 3) (by kernel_rfl) (S_val (.int .i64 2) (by kernel_rfl) (S_val (.int .i64 2) (by kernel_rfl) (S_nil (R_inLoop (R_seq (R_seq (R_region (S_val (.int .i64 2) (by kernel_rfl) (S_val (.bool true) (by kernel_rfl) (?_))))))))))))
          refine S_nil (R_yes (by kernel_rfl) (R_skip (R_seq (R_block (R_seq (R_region (S_load 0 0 (.agg #[.bool bP, .slice AP (List.length lP) cP]) hM49 (by kernel_rfl) (S_val (.int .i64 2) (by kernel_rfl) (S_call (dg xP 2) (fun r : Int => .int .i64 r) hM49 (k_digit bP lP xP 2 (nv_nb hNP (by omega)) AP (List.length lP) cP rfl hcP (by omega) w48 (hM49.ent 3 rfl)) (by kernel_rfl) (fun r55 h56 w57 hM58 => S_val (.int .i64 r55) (by kernel_rfl) (S_nil (?_))))))))))))
          refine R_seq (R_seq (R_region (S_val (.pointer (some ⟨g1, 0, none⟩)) (by kernel_rfl) (S_load 0 0 (.bool bP) hM58 (by kernel_rfl) (S_nil (?_))))))
          refine R_if bP (by kernel_rfl) (fun h_ => ?_) (fun h_ => ?_)
          · refine R_region (S_val (.int .i64 r55) (by kernel_rfl) (S_int (IntKind.i64.wrap (0 - r55)) .i64 (by kernel_rfl) (fun x59 h60 => S_val (.int .i64 x59) (by kernel_rfl) (S_nil (R_region (S_val (.int .i64 x53) (by kernel_rfl) (S_int (IntKind.i64.wrap (x53 * 65536)) .i64 (by kernel_rfl) (fun x61 h62 => S_val (.int .i64 x59) (by kernel_rfl) (S_int (IntKind.i64.wrap (x61 + x59)) .i64 (by kernel_rfl) (fun x63 h64 => S_val (.int .i64 x63) (by kernel_rfl) (S_nil (?_))))))))))))
            refine R_inBlock (R_region (S_val (.int .i64 2) (by kernel_rfl) (S_val (.int .i64 1) (by kernel_rfl) (S_val (.int .i64 1) (by kernel_rfl) (S_nil (R_inLoop (R_seq (R_seq (R_region (S_val (.int .i64 1) (by kernel_rfl) (S_val (.bool true) (by kernel_rfl) (?_))))))))))))
            refine S_nil (R_yes (by kernel_rfl) (R_skip (R_seq (R_block (R_seq (R_region (S_load 0 0 (.agg #[.bool bP, .slice AP (List.length lP) cP]) hM58 (by kernel_rfl) (S_val (.int .i64 1) (by kernel_rfl) (S_call (dg xP 1) (fun r : Int => .int .i64 r) hM58 (k_digit bP lP xP 1 (nv_nb hNP (by omega)) AP (List.length lP) cP rfl hcP (by omega) w57 (hM58.ent 3 rfl)) (by kernel_rfl) (fun r65 h66 w67 hM68 => S_val (.int .i64 r65) (by kernel_rfl) (S_nil (?_))))))))))))
            refine R_seq (R_seq (R_region (S_val (.pointer (some ⟨g1, 0, none⟩)) (by kernel_rfl) (S_load 0 0 (.bool bP) hM68 (by kernel_rfl) (S_nil (?_))))))
            refine R_if bP (by kernel_rfl) (fun h_ => ?_) (fun h_ => ?_)
            · refine R_region (S_val (.int .i64 r65) (by kernel_rfl) (S_int (IntKind.i64.wrap (0 - r65)) .i64 (by kernel_rfl) (fun x69 h70 => S_val (.int .i64 x69) (by kernel_rfl) (S_nil (R_region (S_val (.int .i64 x63) (by kernel_rfl) (S_int (IntKind.i64.wrap (x63 * 65536)) .i64 (by kernel_rfl) (fun x71 h72 => S_val (.int .i64 x69) (by kernel_rfl) (S_int (IntKind.i64.wrap (x71 + x69)) .i64 (by kernel_rfl) (fun x73 h74 => S_val (.int .i64 x73) (by kernel_rfl) (S_nil (?_))))))))))))
              refine R_inBlock (R_region (S_val (.int .i64 1) (by kernel_rfl) (S_val (.int .i64 0) (by kernel_rfl) (S_val (.int .i64 0) (by kernel_rfl) (S_nil (R_inLoop (R_seq (R_seq (R_region (S_val (.int .i64 0) (by kernel_rfl) (S_val (.bool true) (by kernel_rfl) (?_))))))))))))
              refine S_nil (R_yes (by kernel_rfl) (R_skip (R_seq (R_block (R_seq (R_region (S_load 0 0 (.agg #[.bool bP, .slice AP (List.length lP) cP]) hM68 (by kernel_rfl) (S_val (.int .i64 0) (by kernel_rfl) (S_call (dg xP 0) (fun r : Int => .int .i64 r) hM68 (k_digit bP lP xP 0 (nv_nb hNP (by omega)) AP (List.length lP) cP rfl hcP (by omega) w67 (hM68.ent 3 rfl)) (by kernel_rfl) (fun r75 h76 w77 hM78 => S_val (.int .i64 r75) (by kernel_rfl) (S_nil (?_))))))))))))
              refine R_seq (R_seq (R_region (S_val (.pointer (some ⟨g1, 0, none⟩)) (by kernel_rfl) (S_load 0 0 (.bool bP) hM78 (by kernel_rfl) (S_nil (?_))))))
              refine R_if bP (by kernel_rfl) (fun h_ => ?_) (fun h_ => ?_)
              · refine R_region (S_val (.int .i64 r75) (by kernel_rfl) (S_int (IntKind.i64.wrap (0 - r75)) .i64 (by kernel_rfl) (fun x79 h80 => S_val (.int .i64 x79) (by kernel_rfl) (S_nil (R_region (S_val (.int .i64 x73) (by kernel_rfl) (S_int (IntKind.i64.wrap (x73 * 65536)) .i64 (by kernel_rfl) (fun x81 h82 => S_val (.int .i64 x79) (by kernel_rfl) (S_int (IntKind.i64.wrap (x81 + x79)) .i64 (by kernel_rfl) (fun x83 h84 => S_val (.int .i64 x83) (by kernel_rfl) (S_nil (?_))))))))))))
                refine R_inBlock (R_region (S_val (.int .i64 0) (by kernel_rfl) (S_val (.int .i64 (-1)) (by kernel_rfl) (S_val (.int .i64 (-1)) (by kernel_rfl) (S_nil (R_inLoop (R_seq (R_seq (R_region (S_val (.int .i64 (-1)) (by kernel_rfl) (S_val (.bool false) (by kernel_rfl) (?_))))))))))))
                refine S_nil (R_no (by kernel_rfl) (R_exit rfl (R_seq (R_region (S_val (.int .i64 x83) (by kernel_rfl) (S_val (.int .i64 x83) (by kernel_rfl) (S_val (.bool true) (by kernel_rfl) (S_nil (?_)))))))))
                refine R_ret hM78 rfl (.cons (.tmp _ (.int .i64 x83) (by kernel_rfl)) (.cons (.tmp _ (.bool true) (by kernel_rfl)) .nil)) rfl ?_
                have e_c45 := (nc_b hNP).1 (by simpa using c45)
                have e_c50 := (nc_b hNP).1 c50
                have s_c23 : ¬ ((absI xP - absI x7) > 0) := fun q => c23 (h19 ▸ sg_gt.2 q)
                have s_c42 : (absI xP - absI x26) = 0 := sg_z.1 (h38.symm ▸ c42)
                have hfin := toI_neg (by omega) h47 h56 h66 h76 h52 h54 h60 h62 h64 h70 h72 h74 h80 h82 h84
                exact ⟨congrArg (fun r => Ending.returned (e_umbraref01_ToInt r)) (show (x83, true) = toI xP from (by unfold toI; rw [if_pos (by omega), hfin])), hM78.below⟩
              · exact absurd h_ (by simp [c50])
            · exact absurd h_ (by simp [c50])
          · exact absurd h_ (by simp [c50])
        · refine R_skip (R_region (S_val (.int .i64 0) (by kernel_rfl) (S_val (.int .i64 0) (by kernel_rfl) (S_val (.int .i64 r46) (by kernel_rfl) (S_int (IntKind.i64.wrap (0 + r46)) .i64 (by kernel_rfl) (fun x85 h86 => S_val (.int .i64 x85) (by kernel_rfl) (S_nil (R_inBlock (R_region (S_val (.int .i64 3) (by kernel_rfl) (S_val (.int .i64 2) (by kernel_rfl) (?_))))))))))))
          refine S_val (.int .i64 2) (by kernel_rfl) (S_nil (R_inLoop (R_seq (R_seq (R_region (S_val (.int .i64 2) (by kernel_rfl) (S_val (.bool true) (by kernel_rfl) (S_nil (R_yes (by kernel_rfl) (R_skip (R_seq (?_))))))))))))
          refine R_block (R_seq (R_region (S_load 0 0 (.agg #[.bool bP, .slice AP (List.length lP) cP]) hM49 (by kernel_rfl) (S_val (.int .i64 2) (by kernel_rfl) (S_call (dg xP 2) (fun r : Int => .int .i64 r) hM49 (k_digit bP lP xP 2 (nv_nb hNP (by omega)) AP (List.length lP) cP rfl hcP (by omega) w48 (hM49.ent 3 rfl)) (by kernel_rfl) (fun r87 h88 w89 hM90 => S_val (.int .i64 r87) (by kernel_rfl) (S_nil (R_seq (R_seq (R_region (S_val (.pointer (some ⟨g1, 0, none⟩)) (by kernel_rfl) (?_))))))))))))
          refine S_load 0 0 (.bool bP) hM90 (by kernel_rfl) (S_nil (?_))
          refine R_if bP (by kernel_rfl) (fun h_ => ?_) (fun h_ => ?_)
          · exact absurd h_ (by simp [c50])
          · refine R_skip (R_region (S_val (.int .i64 x85) (by kernel_rfl) (S_int (IntKind.i64.wrap (x85 * 65536)) .i64 (by kernel_rfl) (fun x91 h92 => S_val (.int .i64 r87) (by kernel_rfl) (S_int (IntKind.i64.wrap (x91 + r87)) .i64 (by kernel_rfl) (fun x93 h94 => S_val (.int .i64 x93) (by kernel_rfl) (S_nil (R_inBlock (R_region (S_val (.int .i64 2) (by kernel_rfl) (S_val (.int .i64 1) (by kernel_rfl) (?_))))))))))))
            refine S_val (.int .i64 1) (by kernel_rfl) (S_nil (R_inLoop (R_seq (R_seq (R_region (S_val (.int .i64 1) (by kernel_rfl) (S_val (.bool true) (by kernel_rfl) (S_nil (R_yes (by kernel_rfl) (R_skip (R_seq (?_))))))))))))
            refine R_block (R_seq (R_region (S_load 0 0 (.agg #[.bool bP, .slice AP (List.length lP) cP]) hM90 (by kernel_rfl) (S_val (.int .i64 1) (by kernel_rfl) (S_call (dg xP 1) (fun r : Int => .int .i64 r) hM90 (k_digit bP lP xP 1 (nv_nb hNP (by omega)) AP (List.length lP) cP rfl hcP (by omega) w89 (hM90.ent 3 rfl)) (by kernel_rfl) (fun r95 h96 w97 hM98 => S_val (.int .i64 r95) (by kernel_rfl) (S_nil (R_seq (R_seq (R_region (S_val (.pointer (some ⟨g1, 0, none⟩)) (by kernel_rfl) (?_))))))))))))
            refine S_load 0 0 (.bool bP) hM98 (by kernel_rfl) (S_nil (?_))
            refine R_if bP (by kernel_rfl) (fun h_ => ?_) (fun h_ => ?_)
            · exact absurd h_ (by simp [c50])
            · refine R_skip (R_region (S_val (.int .i64 x93) (by kernel_rfl) (S_int (IntKind.i64.wrap (x93 * 65536)) .i64 (by kernel_rfl) (fun x99 h100 => S_val (.int .i64 r95) (by kernel_rfl) (S_int (IntKind.i64.wrap (x99 + r95)) .i64 (by kernel_rfl) (fun x101 h102 => S_val (.int .i64 x101) (by kernel_rfl) (S_nil (R_inBlock (R_region (S_val (.int .i64 1) (by kernel_rfl) (S_val (.int .i64 0) (by kernel_rfl) (?_))))))))))))
              refine S_val (.int .i64 0) (by kernel_rfl) (S_nil (R_inLoop (R_seq (R_seq (R_region (S_val (.int .i64 0) (by kernel_rfl) (S_val (.bool true) (by kernel_rfl) (S_nil (R_yes (by kernel_rfl) (R_skip (R_seq (?_))))))))))))
              refine R_block (R_seq (R_region (S_load 0 0 (.agg #[.bool bP, .slice AP (List.length lP) cP]) hM98 (by kernel_rfl) (S_val (.int .i64 0) (by kernel_rfl) (S_call (dg xP 0) (fun r : Int => .int .i64 r) hM98 (k_digit bP lP xP 0 (nv_nb hNP (by omega)) AP (List.length lP) cP rfl hcP (by omega) w97 (hM98.ent 3 rfl)) (by kernel_rfl) (fun r103 h104 w105 hM106 => S_val (.int .i64 r103) (by kernel_rfl) (S_nil (R_seq (R_seq (R_region (S_val (.pointer (some ⟨g1, 0, none⟩)) (by kernel_rfl) (?_))))))))))))
              refine S_load 0 0 (.bool bP) hM106 (by kernel_rfl) (S_nil (?_))
              refine R_if bP (by kernel_rfl) (fun h_ => ?_) (fun h_ => ?_)
              · exact absurd h_ (by simp [c50])
              · refine R_skip (R_region (S_val (.int .i64 x101) (by kernel_rfl) (S_int (IntKind.i64.wrap (x101 * 65536)) .i64 (by kernel_rfl) (fun x107 h108 => S_val (.int .i64 r103) (by kernel_rfl) (S_int (IntKind.i64.wrap (x107 + r103)) .i64 (by kernel_rfl) (fun x109 h110 => S_val (.int .i64 x109) (by kernel_rfl) (S_nil (R_inBlock (R_region (S_val (.int .i64 0) (by kernel_rfl) (S_val (.int .i64 (-1)) (by kernel_rfl) (?_))))))))))))
                refine S_val (.int .i64 (-1)) (by kernel_rfl) (S_nil (R_inLoop (R_seq (R_seq (R_region (S_val (.int .i64 (-1)) (by kernel_rfl) (S_val (.bool false) (by kernel_rfl) (S_nil (R_no (by kernel_rfl) (R_exit rfl (R_seq (?_))))))))))))
                refine R_region (S_val (.int .i64 x109) (by kernel_rfl) (S_val (.int .i64 x109) (by kernel_rfl) (S_val (.bool true) (by kernel_rfl) (S_nil (?_)))))
                refine R_ret hM106 rfl (.cons (.tmp _ (.int .i64 x109) (by kernel_rfl)) (.cons (.tmp _ (.bool true) (by kernel_rfl)) .nil)) rfl ?_
                have e_c45 := (nc_b hNP).1 (by simpa using c45)
                have e_c50 := nc_bf hNP c50
                have s_c23 : ¬ ((absI xP - absI x7) > 0) := fun q => c23 (h19 ▸ sg_gt.2 q)
                have s_c42 : (absI xP - absI x26) = 0 := sg_z.1 (h38.symm ▸ c42)
                have hfin := toI_pos (by omega) h47 h88 h96 h104 h86 h92 h94 h100 h102 h108 h110
                exact ⟨congrArg (fun r => Ending.returned (e_umbraref01_ToInt r)) (show (x109, true) = toI xP from (by unfold toI; rw [if_pos (by omega), hfin])), hM106.below⟩
    · refine H_val (.bool false) (fun _ => by kernel_rfl) (H_skip (by kernel_rfl) (H_skip (by kernel_rfl) (H_skip (by kernel_rfl) (H_val (.bool false) (fun _ => by kernel_rfl) (H_val (.bool false) (fun _ => by kernel_rfl) (H_nil hM3 hL41 (fun w111 hM112 => S_nil (R_no (by kernel_rfl) (R_skip (R_seq (R_region (?_))))))))))))
      refine S_val (.int .i64 0) (by kernel_rfl) (S_nil (R_seq (R_seq (R_region (S_val (.int .i64 3) (by kernel_rfl) (S_nil (R_block (R_loop (R_seq (R_seq (R_region (?_))))))))))))
      refine S_val (.int .i64 3) (by kernel_rfl) (S_val (.bool true) (by kernel_rfl) (S_nil (R_yes (by kernel_rfl) (R_skip (R_seq (R_block (R_seq (R_region (S_load 0 0 (.agg #[.bool bP, .slice AP (List.length lP) cP]) hM112 (by kernel_rfl) (S_val (.int .i64 3) (by kernel_rfl) (S_call (dg xP 3) (fun r : Int => .int .i64 r) hM112 (k_digit bP lP xP 3 (nv_nb hNP (by omega)) AP (List.length lP) cP rfl hcP (by omega) w111 (hM112.ent 3 rfl)) (by kernel_rfl) (fun r113 h114 w115 hM116 => ?_))))))))))))
      refine S_val (.int .i64 r113) (by kernel_rfl) (S_nil (R_seq (R_seq (R_region (S_val (.pointer (some ⟨g1, 0, none⟩)) (by kernel_rfl) (S_load 0 0 (.bool bP) hM116 (by kernel_rfl) (S_nil (?_))))))))
      refine R_if bP (by kernel_rfl) (fun c117 => ?_) (fun c117 => ?_)
      · refine R_region (S_val (.int .i64 r113) (by kernel_rfl) (S_int (IntKind.i64.wrap (0 - r113)) .i64 (by kernel_rfl) (fun x118 h119 => S_val (.int .i64 x118) (by kernel_rfl) (S_nil (R_region (S_val (.int .i64 0) (by kernel_rfl) (S_val (.int .i64 0) (by kernel_rfl) (S_val (.int .i64 x118) (by kernel_rfl) (S_int (IntKind.i64.wrap (0 + x118)) .i64 (by kernel_rfl) (fun x120 h121 => S_val (.int .i64 x120) (by kernel_rfl) (S_nil (?_))))))))))))
        refine R_inBlock (R_region (S_val (.int .i64 3) (by kernel_rfl) (S_val (.int .i64 2) (by kernel_rfl) (S_val (.int .i64 2) (by kernel_rfl) (S_nil (R_inLoop (R_seq (R_seq (R_region (S_val (.int .i64 2) (by kernel_rfl) (S_val (.bool true) (by kernel_rfl) (?_))))))))))))
        refine S_nil (R_yes (by kernel_rfl) (R_skip (R_seq (R_block (R_seq (R_region (S_load 0 0 (.agg #[.bool bP, .slice AP (List.length lP) cP]) hM116 (by kernel_rfl) (S_val (.int .i64 2) (by kernel_rfl) (S_call (dg xP 2) (fun r : Int => .int .i64 r) hM116 (k_digit bP lP xP 2 (nv_nb hNP (by omega)) AP (List.length lP) cP rfl hcP (by omega) w115 (hM116.ent 3 rfl)) (by kernel_rfl) (fun r122 h123 w124 hM125 => S_val (.int .i64 r122) (by kernel_rfl) (S_nil (?_))))))))))))
        refine R_seq (R_seq (R_region (S_val (.pointer (some ⟨g1, 0, none⟩)) (by kernel_rfl) (S_load 0 0 (.bool bP) hM125 (by kernel_rfl) (S_nil (?_))))))
        refine R_if bP (by kernel_rfl) (fun h_ => ?_) (fun h_ => ?_)
        · refine R_region (S_val (.int .i64 r122) (by kernel_rfl) (S_int (IntKind.i64.wrap (0 - r122)) .i64 (by kernel_rfl) (fun x126 h127 => S_val (.int .i64 x126) (by kernel_rfl) (S_nil (R_region (S_val (.int .i64 x120) (by kernel_rfl) (S_int (IntKind.i64.wrap (x120 * 65536)) .i64 (by kernel_rfl) (fun x128 h129 => S_val (.int .i64 x126) (by kernel_rfl) (S_int (IntKind.i64.wrap (x128 + x126)) .i64 (by kernel_rfl) (fun x130 h131 => S_val (.int .i64 x130) (by kernel_rfl) (S_nil (?_))))))))))))
          refine R_inBlock (R_region (S_val (.int .i64 2) (by kernel_rfl) (S_val (.int .i64 1) (by kernel_rfl) (S_val (.int .i64 1) (by kernel_rfl) (S_nil (R_inLoop (R_seq (R_seq (R_region (S_val (.int .i64 1) (by kernel_rfl) (S_val (.bool true) (by kernel_rfl) (?_))))))))))))
          refine S_nil (R_yes (by kernel_rfl) (R_skip (R_seq (R_block (R_seq (R_region (S_load 0 0 (.agg #[.bool bP, .slice AP (List.length lP) cP]) hM125 (by kernel_rfl) (S_val (.int .i64 1) (by kernel_rfl) (S_call (dg xP 1) (fun r : Int => .int .i64 r) hM125 (k_digit bP lP xP 1 (nv_nb hNP (by omega)) AP (List.length lP) cP rfl hcP (by omega) w124 (hM125.ent 3 rfl)) (by kernel_rfl) (fun r132 h133 w134 hM135 => S_val (.int .i64 r132) (by kernel_rfl) (S_nil (?_))))))))))))
          refine R_seq (R_seq (R_region (S_val (.pointer (some ⟨g1, 0, none⟩)) (by kernel_rfl) (S_load 0 0 (.bool bP) hM135 (by kernel_rfl) (S_nil (?_))))))
          refine R_if bP (by kernel_rfl) (fun h_ => ?_) (fun h_ => ?_)
          · refine R_region (S_val (.int .i64 r132) (by kernel_rfl) (S_int (IntKind.i64.wrap (0 - r132)) .i64 (by kernel_rfl) (fun x136 h137 => S_val (.int .i64 x136) (by kernel_rfl) (S_nil (R_region (S_val (.int .i64 x130) (by kernel_rfl) (S_int (IntKind.i64.wrap (x130 * 65536)) .i64 (by kernel_rfl) (fun x138 h139 => S_val (.int .i64 x136) (by kernel_rfl) (S_int (IntKind.i64.wrap (x138 + x136)) .i64 (by kernel_rfl) (fun x140 h141 => S_val (.int .i64 x140) (by kernel_rfl) (S_nil (?_))))))))))))
            refine R_inBlock (R_region (S_val (.int .i64 1) (by kernel_rfl) (S_val (.int .i64 0) (by kernel_rfl) (S_val (.int .i64 0) (by kernel_rfl) (S_nil (R_inLoop (R_seq (R_seq (R_region (S_val (.int .i64 0) (by kernel_rfl) (S_val (.bool true) (by kernel_rfl) (?_))))))))))))
            refine S_nil (R_yes (by kernel_rfl) (R_skip (R_seq (R_block (R_seq (R_region (S_load 0 0 (.agg #[.bool bP, .slice AP (List.length lP) cP]) hM135 (by kernel_rfl) (S_val (.int .i64 0) (by kernel_rfl) (S_call (dg xP 0) (fun r : Int => .int .i64 r) hM135 (k_digit bP lP xP 0 (nv_nb hNP (by omega)) AP (List.length lP) cP rfl hcP (by omega) w134 (hM135.ent 3 rfl)) (by kernel_rfl) (fun r142 h143 w144 hM145 => S_val (.int .i64 r142) (by kernel_rfl) (S_nil (?_))))))))))))
            refine R_seq (R_seq (R_region (S_val (.pointer (some ⟨g1, 0, none⟩)) (by kernel_rfl) (S_load 0 0 (.bool bP) hM145 (by kernel_rfl) (S_nil (?_))))))
            refine R_if bP (by kernel_rfl) (fun h_ => ?_) (fun h_ => ?_)
            · refine R_region (S_val (.int .i64 r142) (by kernel_rfl) (S_int (IntKind.i64.wrap (0 - r142)) .i64 (by kernel_rfl) (fun x146 h147 => S_val (.int .i64 x146) (by kernel_rfl) (S_nil (R_region (S_val (.int .i64 x140) (by kernel_rfl) (S_int (IntKind.i64.wrap (x140 * 65536)) .i64 (by kernel_rfl) (fun x148 h149 => S_val (.int .i64 x146) (by kernel_rfl) (S_int (IntKind.i64.wrap (x148 + x146)) .i64 (by kernel_rfl) (fun x150 h151 => S_val (.int .i64 x150) (by kernel_rfl) (S_nil (?_))))))))))))
              refine R_inBlock (R_region (S_val (.int .i64 0) (by kernel_rfl) (S_val (.int .i64 (-1)) (by kernel_rfl) (S_val (.int .i64 (-1)) (by kernel_rfl) (S_nil (R_inLoop (R_seq (R_seq (R_region (S_val (.int .i64 (-1)) (by kernel_rfl) (S_val (.bool false) (by kernel_rfl) (?_))))))))))))
              refine S_nil (R_no (by kernel_rfl) (R_exit rfl (R_seq (R_region (S_val (.int .i64 x150) (by kernel_rfl) (S_val (.int .i64 x150) (by kernel_rfl) (S_val (.bool true) (by kernel_rfl) (S_nil (?_)))))))))
              refine R_ret hM145 rfl (.cons (.tmp _ (.int .i64 x150) (by kernel_rfl)) (.cons (.tmp _ (.bool true) (by kernel_rfl)) .nil)) rfl ?_
              have e_c117 := (nc_b hNP).1 c117
              have s_c23 : ¬ ((absI xP - absI x7) > 0) := fun q => c23 (h19 ▸ sg_gt.2 q)
              have s_c42 : ¬ ((absI xP - absI x26) = 0) := fun q => c42 (h38 ▸ sg_z.2 q)
              have hfin := toI_neg (by omega) h114 h123 h133 h143 h119 h121 h127 h129 h131 h137 h139 h141 h147 h149 h151
              exact ⟨congrArg (fun r => Ending.returned (e_umbraref01_ToInt r)) (show (x150, true) = toI xP from (by unfold toI; rw [if_pos (by omega), hfin])), hM145.below⟩
            · exact absurd h_ (by simp [c117])
          · exact absurd h_ (by simp [c117])
        · exact absurd h_ (by simp [c117])
      · refine R_skip (R_region (S_val (.int .i64 0) (by kernel_rfl) (S_val (.int .i64 0) (by kernel_rfl) (S_val (.int .i64 r113) (by kernel_rfl) (S_int (IntKind.i64.wrap (0 + r113)) .i64 (by kernel_rfl) (fun x152 h153 => S_val (.int .i64 x152) (by kernel_rfl) (S_nil (R_inBlock (R_region (S_val (.int .i64 3) (by kernel_rfl) (S_val (.int .i64 2) (by kernel_rfl) (?_))))))))))))
        refine S_val (.int .i64 2) (by kernel_rfl) (S_nil (R_inLoop (R_seq (R_seq (R_region (S_val (.int .i64 2) (by kernel_rfl) (S_val (.bool true) (by kernel_rfl) (S_nil (R_yes (by kernel_rfl) (R_skip (R_seq (?_))))))))))))
        refine R_block (R_seq (R_region (S_load 0 0 (.agg #[.bool bP, .slice AP (List.length lP) cP]) hM116 (by kernel_rfl) (S_val (.int .i64 2) (by kernel_rfl) (S_call (dg xP 2) (fun r : Int => .int .i64 r) hM116 (k_digit bP lP xP 2 (nv_nb hNP (by omega)) AP (List.length lP) cP rfl hcP (by omega) w115 (hM116.ent 3 rfl)) (by kernel_rfl) (fun r154 h155 w156 hM157 => S_val (.int .i64 r154) (by kernel_rfl) (S_nil (R_seq (R_seq (R_region (S_val (.pointer (some ⟨g1, 0, none⟩)) (by kernel_rfl) (?_))))))))))))
        refine S_load 0 0 (.bool bP) hM157 (by kernel_rfl) (S_nil (?_))
        refine R_if bP (by kernel_rfl) (fun h_ => ?_) (fun h_ => ?_)
        · exact absurd h_ (by simp [c117])
        · refine R_skip (R_region (S_val (.int .i64 x152) (by kernel_rfl) (S_int (IntKind.i64.wrap (x152 * 65536)) .i64 (by kernel_rfl) (fun x158 h159 => S_val (.int .i64 r154) (by kernel_rfl) (S_int (IntKind.i64.wrap (x158 + r154)) .i64 (by kernel_rfl) (fun x160 h161 => S_val (.int .i64 x160) (by kernel_rfl) (S_nil (R_inBlock (R_region (S_val (.int .i64 2) (by kernel_rfl) (S_val (.int .i64 1) (by kernel_rfl) (?_))))))))))))
          refine S_val (.int .i64 1) (by kernel_rfl) (S_nil (R_inLoop (R_seq (R_seq (R_region (S_val (.int .i64 1) (by kernel_rfl) (S_val (.bool true) (by kernel_rfl) (S_nil (R_yes (by kernel_rfl) (R_skip (R_seq (?_))))))))))))
          refine R_block (R_seq (R_region (S_load 0 0 (.agg #[.bool bP, .slice AP (List.length lP) cP]) hM157 (by kernel_rfl) (S_val (.int .i64 1) (by kernel_rfl) (S_call (dg xP 1) (fun r : Int => .int .i64 r) hM157 (k_digit bP lP xP 1 (nv_nb hNP (by omega)) AP (List.length lP) cP rfl hcP (by omega) w156 (hM157.ent 3 rfl)) (by kernel_rfl) (fun r162 h163 w164 hM165 => S_val (.int .i64 r162) (by kernel_rfl) (S_nil (R_seq (R_seq (R_region (S_val (.pointer (some ⟨g1, 0, none⟩)) (by kernel_rfl) (?_))))))))))))
          refine S_load 0 0 (.bool bP) hM165 (by kernel_rfl) (S_nil (?_))
          refine R_if bP (by kernel_rfl) (fun h_ => ?_) (fun h_ => ?_)
          · exact absurd h_ (by simp [c117])
          · refine R_skip (R_region (S_val (.int .i64 x160) (by kernel_rfl) (S_int (IntKind.i64.wrap (x160 * 65536)) .i64 (by kernel_rfl) (fun x166 h167 => S_val (.int .i64 r162) (by kernel_rfl) (S_int (IntKind.i64.wrap (x166 + r162)) .i64 (by kernel_rfl) (fun x168 h169 => S_val (.int .i64 x168) (by kernel_rfl) (S_nil (R_inBlock (R_region (S_val (.int .i64 1) (by kernel_rfl) (S_val (.int .i64 0) (by kernel_rfl) (?_))))))))))))
            refine S_val (.int .i64 0) (by kernel_rfl) (S_nil (R_inLoop (R_seq (R_seq (R_region (S_val (.int .i64 0) (by kernel_rfl) (S_val (.bool true) (by kernel_rfl) (S_nil (R_yes (by kernel_rfl) (R_skip (R_seq (?_))))))))))))
            refine R_block (R_seq (R_region (S_load 0 0 (.agg #[.bool bP, .slice AP (List.length lP) cP]) hM165 (by kernel_rfl) (S_val (.int .i64 0) (by kernel_rfl) (S_call (dg xP 0) (fun r : Int => .int .i64 r) hM165 (k_digit bP lP xP 0 (nv_nb hNP (by omega)) AP (List.length lP) cP rfl hcP (by omega) w164 (hM165.ent 3 rfl)) (by kernel_rfl) (fun r170 h171 w172 hM173 => S_val (.int .i64 r170) (by kernel_rfl) (S_nil (R_seq (R_seq (R_region (S_val (.pointer (some ⟨g1, 0, none⟩)) (by kernel_rfl) (?_))))))))))))
            refine S_load 0 0 (.bool bP) hM173 (by kernel_rfl) (S_nil (?_))
            refine R_if bP (by kernel_rfl) (fun h_ => ?_) (fun h_ => ?_)
            · exact absurd h_ (by simp [c117])
            · refine R_skip (R_region (S_val (.int .i64 x168) (by kernel_rfl) (S_int (IntKind.i64.wrap (x168 * 65536)) .i64 (by kernel_rfl) (fun x174 h175 => S_val (.int .i64 r170) (by kernel_rfl) (S_int (IntKind.i64.wrap (x174 + r170)) .i64 (by kernel_rfl) (fun x176 h177 => S_val (.int .i64 x176) (by kernel_rfl) (S_nil (R_inBlock (R_region (S_val (.int .i64 0) (by kernel_rfl) (S_val (.int .i64 (-1)) (by kernel_rfl) (?_))))))))))))
              refine S_val (.int .i64 (-1)) (by kernel_rfl) (S_nil (R_inLoop (R_seq (R_seq (R_region (S_val (.int .i64 (-1)) (by kernel_rfl) (S_val (.bool false) (by kernel_rfl) (S_nil (R_no (by kernel_rfl) (R_exit rfl (R_seq (?_))))))))))))
              refine R_region (S_val (.int .i64 x176) (by kernel_rfl) (S_val (.int .i64 x176) (by kernel_rfl) (S_val (.bool true) (by kernel_rfl) (S_nil (?_)))))
              refine R_ret hM173 rfl (.cons (.tmp _ (.int .i64 x176) (by kernel_rfl)) (.cons (.tmp _ (.bool true) (by kernel_rfl)) .nil)) rfl ?_
              have e_c117 := nc_bf hNP c117
              have s_c23 : ¬ ((absI xP - absI x7) > 0) := fun q => c23 (h19 ▸ sg_gt.2 q)
              have s_c42 : ¬ ((absI xP - absI x26) = 0) := fun q => c42 (h38 ▸ sg_z.2 q)
              have hfin := toI_pos (by omega) h114 h155 h163 h171 h153 h159 h161 h167 h169 h175 h177
              exact ⟨congrArg (fun r => Ending.returned (e_umbraref01_ToInt r)) (show (x176, true) = toI xP from (by unfold toI; rw [if_pos (by omega), hfin])), hM173.below⟩

end Go.Proofs.Ytognbeejobfpfaa
