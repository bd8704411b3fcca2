/- Walks by value: Wide, ToWide, Root, Add, Div, MulDiv. -/
import Derived.Test.YtognbeejobfpfaaN8
import Derived.Test.YtognbeejobfpfaaMJ
import Derived.Test.YtognbeejobfpfaaGoJ
import Derived.Test.YtognbeejobfpfaaGoW
namespace Go.Proofs.Ytognbeejobfpfaa
open Go.RowKit Go.Sort
set_option linter.unusedVariables false
set_option linter.unusedSimpArgs false

section
variable {P : Program} {ops : Array Oper} {W : World} {ord : List Nat} {Q : (World → Prop) → Act → Prop} {j : Nat} {rest : List (Nat × Oper)} {F : World → Prop} {U : Nat → Prop} {a : Act} {dst : Option Tmp} {op : Op} {ty : TypeId} {pos : String} {after : Array Edge} {guard : Option (Nat × Bool)}
theorem J_callB (X : Int) (S : List (Option Addr × List Value)) {w0 : Base} {L N : List Blk} {M' : List (Option Addr × List Value)} (hM : St w0 L W) (hL : LedN W F U N w0 M') {f : FuncId} {args : Array Value}
    (K : ∀ w', St ⟨w0.w, w0.S, M' ++ w0.M⟩ (N ++ L) w' → Calls P f args w' (RetN w' S (nm X))) (hS : ∀ m ∈ S, m ∈ M' ++ w0.M)
    (hd : (depE4 ops ord j && isCall ⟨dst, op, ty, pos, after, guard⟩) = true) (hc : ∀ w', (Region.wanted ⟨dst, op, ty, pos, after, guard⟩ (yielded ops a.tmps), (execOp a.eval ⟨dst, op, ty, pos, after, guard⟩).run P w') = (true, .ok (.enter f args) w'))
    (h : ∀ x, X = x → ∀ b l, NC b l x → ∀ A cap, List.length l ≤ cap → ∀ F U, LedN W F U N w0 ((A, nv l) :: M') → WlJ P ops W ord Q rest F U (a.put dst (.agg #[.bool b, .slice A (List.length l) cap]))) : WlJ P ops W ord Q ((j, ⟨dst, op, ty, pos, after, guard⟩) :: rest) F U a :=
  J_callN (nm X) S hM hL K hS hd hc fun r hr A cap hcap F U hL' => h X rfl r.1 r.2 (nc_of hr) A cap hcap F U hL'
theorem J_callBB (X Y : Int) (S : List (Option Addr × List Value)) {w0 : Base} {L N : List Blk} {M' : List (Option Addr × List Value)} (hM : St w0 L W) (hL : LedN W F U N w0 M') {f : FuncId} {args : Array Value}
    (K : ∀ w', St ⟨w0.w, w0.S, M' ++ w0.M⟩ (N ++ L) w' → Calls P f args w' (RetNN w' S (nm X, nm Y))) (hS : ∀ m ∈ S, m ∈ M' ++ w0.M)
    (hd : (depE4 ops ord j && isCall ⟨dst, op, ty, pos, after, guard⟩) = true) (hc : ∀ w', (Region.wanted ⟨dst, op, ty, pos, after, guard⟩ (yielded ops a.tmps), (execOp a.eval ⟨dst, op, ty, pos, after, guard⟩).run P w') = (true, .ok (.enter f args) w'))
    (h : ∀ x, X = x → ∀ y, Y = y → ∀ b l, NC b l x → ∀ b' l', NC b' l' y → ∀ A cap A' cap', List.length l ≤ cap → List.length l' ≤ cap' → ∀ F U, LedN W F U N w0 ((A, nv l) :: (A', nv l') :: M') → WlJ P ops W ord Q rest F U (a.put dst (.tuple #[.agg #[.bool b, .slice A (List.length l) cap], .agg #[.bool b', .slice A' (List.length l') cap']]))) : WlJ P ops W ord Q ((j, ⟨dst, op, ty, pos, after, guard⟩) :: rest) F U a :=
  J_callNN (nm X, nm Y) S hM hL K hS hd hc fun r hr A cap A' cap' h1 h2 F U hL' => h X rfl Y rfl r.1.1 r.1.2 (nc_of (congrArg Prod.fst hr)) r.2.1 r.2.2 (nc_of (congrArg Prod.snd hr)) A cap A' cap' h1 h2 F U hL'
end
theorem nc_small {b : Bool} {l : List Int} {x : Int} (h : NC b l x) (hx : -2037035976334486086268445688409378161051468393665936250636140449354381299763336706183397376 ≤ x ∧ x ≤ 2037035976334486086268445688409378161051468393665936250636140449354381299763336706183397376) : l.length ≤ 1000000 := Nat.le_trans (nv_nb h hx).len (by decide)
theorem nv_app4 {b : Bool} {l l2 : List Int} {x : Int} (h : NC b l x) (e : [0, 0, 0, 0] ++ l = l2) (hx : -18446744073709551616 ≤ x ∧ x ≤ 18446744073709551616) : NV b l2 (x * 18446744073709551616) := by
  subst e
  have hn := nv_nb h (by omega)
  have hl := digs_len x 8 (by have e : (65536 : Int) ^ 8 = 340282366920938463463374607431768211456 := by decide +kernel
                              rw [e, absI_eq]; omega)
  rw [← h.2] at hl
  refine ⟨Dg_mk (by omega) (Dg_mk (by omega) (Dg_mk (by omega) (Dg_mk (by omega) hn.dg))), by simp; omega, ?_⟩
  have hv := hn.val
  unfold nval at *
  simp only [List.cons_append, List.nil_append, dval]
  split at hv <;> rename_i hb
  · rw [if_pos hb]; omega
  · rw [if_neg hb]; omega
theorem fq_pos {x d : Int} (h : 0 < d) : fq x d = x / d := by unfold fq; rw [if_pos h]
theorem fr_pos {x d : Int} (h : 0 < d) : fr x d = x % d := by unfold fr; rw [if_pos h]
/-- A wide number, if it is one. -/
def toW (x : Int) : Int × Bool := if -170141183460469231731687303715884105728 ≤ x ∧ x < 170141183460469231731687303715884105728 then (x, true) else (0, false)
theorem toW_W (x : Int) : InW (toW x).1 := by unfold toW InW; split <;> simp_all
theorem toI_t {x n : Int} (h : toI x = (n, true)) : -9223372036854775808 ≤ x ∧ x < 9223372036854775808 ∧ n = x := by
  unfold toI at h
  split at h
  · rename_i hx
    exact ⟨hx.1, hx.2, (congrArg Prod.fst h).symm⟩
  · have := congrArg Prod.snd h
    cases this
theorem toI_f {x n : Int} (h : toI x = (n, false)) : ¬ (-9223372036854775808 ≤ x ∧ x < 9223372036854775808) ∧ n = 0 := by
  unfold toI at h
  split at h
  · have := congrArg Prod.snd h
    cases this
  · rename_i hx
    exact ⟨hx, (congrArg Prod.fst h).symm⟩
theorem u16_or {y z x v r : Int} (hz : IntKind.u64.wrap (y * 2 ^ 16) = z) (hx : IntKind.u64.wrap r = x) (hv : bits .or .u64 z x = v) (hy : 0 ≤ y ∧ y ≤ 281474976710655) (hr : 0 ≤ r ∧ r ≤ 65535) : v = y * 65536 + r := by
  have e : (2 : Int) ^ 16 = 65536 := by decide +kernel
  rw [e, wrU] at hz
  rw [wrU] at hx
  have hz' : z = y * 65536 := by omega
  have hx' : x = r := by omega
  subst hz' hx'
  rw [bits_join .u64 64 (by decide) wrapU64 16 (y * 65536) x (by omega) (by rw [e]; omega) (by omega) (by omega) (by rw [e]; omega) (by omega)] at hv
  omega
theorem u16_or0 {x v r : Int} (hx : IntKind.u64.wrap r = x) (hv : bits .or .u64 0 x = v) (hr : 0 ≤ r ∧ r ≤ 65535) : v = r := by
  have := u16_or (y := 0) (z := 0) (by decide +kernel) hx hv (by omega) hr
  omega
theorem dg4 {x : Int} (h : 0 ≤ x ∧ x < 18446744073709551616) : x = ((dg x 3 * 65536 + dg x 2) * 65536 + dg x 1) * 65536 + dg x 0 ∧ (0 ≤ dg x 3 ∧ dg x 3 ≤ 65535) ∧ (0 ≤ dg x 2 ∧ dg x 2 ≤ 65535) ∧ (0 ≤ dg x 1 ∧ dg x 1 ≤ 65535) ∧ (0 ≤ dg x 0 ∧ dg x 0 ≤ 65535) := by
  rw [dg_0, dg_1, dg_2, dg_3, absI_pos h.1]
  omega
theorem toW_end {x p q r n r3 r2 r1 r0 x3 v3 z2 x2 v2 z1 x1 v1 z0 x0 v0 : Int} (hp : p = 18446744073709551616) (hq : fq x p = q) (hr : fr x p = r) (hn : toI q = (n, true)) (e3 : dg r 3 = r3) (e2 : dg r 2 = r2) (e1 : dg r 1 = r1) (e0 : dg r 0 = r0)
    (a3 : IntKind.u64.wrap r3 = x3) (b3 : bits .or .u64 0 x3 = v3) (c2 : IntKind.u64.wrap (v3 * 2 ^ 16) = z2) (a2 : IntKind.u64.wrap r2 = x2) (b2 : bits .or .u64 z2 x2 = v2) (c1 : IntKind.u64.wrap (v2 * 2 ^ 16) = z1) (a1 : IntKind.u64.wrap r1 = x1) (b1 : bits .or .u64 z1 x1 = v1)
    (c0 : IntKind.u64.wrap (v1 * 2 ^ 16) = z0) (a0 : IntKind.u64.wrap r0 = x0) (b0 : bits .or .u64 z0 x0 = v0) : toW x = (x, true) ∧ n = wHi x ∧ v0 = wLo x := by
  subst hp
  rw [fq_pos (by omega)] at hq
  rw [fr_pos (by omega)] at hr
  obtain ⟨k1, k2, k3⟩ := toI_t hn
  obtain ⟨d, d3, d2, d1, d0⟩ := dg4 (x := r) (by omega)
  rw [e3] at d3; rw [e2] at d2; rw [e1] at d1; rw [e0] at d0
  rw [e3, e2, e1, e0] at d
  have y3 := u16_or0 a3 b3 d3
  have y2 := u16_or c2 a2 b2 (by omega) d2
  have y1 := u16_or c1 a1 b1 (by omega) d1
  have y0 := u16_or c0 a0 b0 (by omega) d0
  refine ⟨by unfold toW; rw [if_pos (by omega)], by unfold wHi; omega, by unfold wLo; omega⟩
theorem toW_no {x p q n : Int} (hp : p = 18446744073709551616) (hq : fq x p = q) (hn : toI q = (n, false)) : toW x = (0, false) := by
  subst hp
  rw [fq_pos (by omega)] at hq
  have := (toI_f hn).1
  unfold toW
  rw [if_neg (by omega)]
theorem eW {x : Int} {b : Bool} {X : Int × Bool} {h l : Int} (e : X = (x, b)) (e1 : h = wHi x) (e2 : l = wLo x) : (Value.tuple #[.agg #[.int .i64 h, .int .u64 l], .bool b]) = .tuple #[.agg #[.int .i64 (wHi X.1), .int .u64 (wLo X.1)], .bool X.2] := by subst e e1 e2; rfl

theorem hx_fq {x p : Int} (hp : p = 18446744073709551616) (h : fq x p = x / p) : fq x p = x / 18446744073709551616 := by rw [h, hp]
theorem hx_fr {x p : Int} (hp : p = 18446744073709551616) (h : fr x p = x % p) : fr x p = x % 18446744073709551616 := by rw [h, hp]

def e_umbraref01_ToWide (r : Int × Bool) : Value := .tuple #[.agg #[.int .i64 (wHi r.1), .int .u64 (wLo r.1)], .bool r.2]
set_option maxRecDepth 100000 in
set_option maxHeartbeats 4000000 in
theorem k_ToWide (bP : Bool) (lP : List Int) (xP : Int) (hNP : NC bP lP xP) (AP : Option Addr) (nP cP : Nat) (hnP : nP = List.length lP) (hcP : nP ≤ cP) (hbP : -1809251394333065553493296640760748560207343510400633813116524750123642650624 ≤ xP ∧ xP ≤ 1809251394333065553493296640760748560207343510400633813116524750123642650624) (w : World) (hAP : Ent w (AP, nv lP)) : Calls Try.prog 58 #[.agg #[.bool bP, .slice AP nP cP]] w (Ret (e_umbraref01_ToWide (toW xP)) w) := by
  subst hnP
  have hM0 := St.startN (w := w) [(AP, nv lP)] (ents hAP ents0)
  refine calls_run Try.func58 rfl ?_
  refine R_seq (R_region (S_fresh none #[.bool bP, .slice AP (List.length lP) cP] 113 hM0 (by kernel_rfl) (fun g1 w2 hM3 => S_fresh none #[.int .i64 0, .int .u64 0] 98 hM3 (by kernel_rfl) (fun g4 w5 hM6 => S_val (.bool false) (by kernel_rfl) (S_nil (R_seq (R_drawJ ⟨w, [(AP, nv lP)], [(none, nv ([])), (AP, nv lP)]⟩ [0, 1, 2, 3, 4, 5, 6, 7, 8, 9] (by kernel_rfl) (fun F7 U8 hL9 => J_load 1 0 (.agg #[.bool bP, .slice AP (List.length lP) cP]) hM6 (by kernel_rfl) (J_callB (2 ^ Int.toNat 64) [] hM6 hL9 (fun w' hM' => k_Power 64 (by omega) w') sub0 (by kernel_rfl) (fun _ => by kernel_rfl) (fun x10 h11 b12 l13 hn14 A15 cap16 hc17 F18 U19 hL20 => ?_))))))))))
  have p_x10 : x10 = 18446744073709551616 := h11.symm.trans (by decide +kernel)
  refine J_callBB (fq xP x10) (fr xP x10) [(AP, nv lP), (A15, nv l13)] hM6 hL20 (fun w' hM' => k_Quotient bP lP xP b12 l13 x10 hNP hn14 AP (List.length lP) cP A15 (List.length l13) cap16 rfl hcP rfl hc17 (by omega) (by omega) (by omega) w' (hM'.ent 2 rfl) (hM'.ent 0 rfl)) (subc 2 rfl (subc 0 rfl sub0)) (by kernel_rfl) (fun _ => by kernel_rfl) (fun x21 h22 y23 h24 b25 l26 hn27 b28 l29 hn30 A31 cap32 A33 cap34 hc35 hc36 F39 U40 hL41 => ?_)
  have fq_b := hx_fq p_x10 (fq_pos (x := xP) (d := x10) (by omega))
  have fr_b := hx_fr p_x10 (fr_pos (x := xP) (d := x10) (by omega))
  refine J_val (.tuple #[.agg #[.bool b25, .slice A31 (List.length l26) cap32], .agg #[.bool b28, .slice A33 (List.length l29) cap34]]) (fun _ => by kernel_rfl) (J_val (.agg #[.bool b25, .slice A31 (List.length l26) cap32]) (fun _ => by kernel_rfl) (J_val (.agg #[.bool b28, .slice A33 (List.length l29) cap34]) (fun _ => by kernel_rfl) (J_fresh none #[.bool false, .slice none 0 0] 113 hL41 (by kernel_rfl) (fun _ => by kernel_rfl) (fun g42 F43 U44 hL45 => J_fresh none #[.bool false, .slice none 0 0] 113 hL45 (by kernel_rfl) (fun _ => by kernel_rfl) (fun g46 F47 U48 hL49 => J_store 1 0 #[.bool b25, .slice A31 (List.length l26) cap32] hM6 hL49 (by kernel_rfl) (by kernel_rfl) (fun F50 hL51 => J_store 0 0 #[.bool b28, .slice A33 (List.length l29) cap34] hM6 hL51 (by kernel_rfl) (by kernel_rfl) (fun F52 hL53 => J_nil hM6 hL53 (fun w54 hM55 => R_seq (R_region (S_load 1 0 (.agg #[.bool b25, .slice A31 (List.length l26) cap32]) hM55 (by kernel_rfl) (S_call (toI x21) (fun r : Int × Bool => .tuple #[.int .i64 r.1, .bool r.2]) hM55 (k_ToInt b25 l26 x21 hn27 A31 (List.length l26) cap32 rfl hc35 (by omega) w54 (hM55.ent 0 rfl)) (by kernel_rfl) (fun r56 h57 w58 hM59 => ?_))))))))))))
  obtain ⟨r60, b62⟩ := r56
  cases b62
  · refine S_val (.tuple #[.int .i64 r60, .bool false]) (by kernel_rfl) (S_val (.int .i64 r60) (by kernel_rfl) (S_val (.bool false) (by kernel_rfl) (S_val (.int .i64 r60) (by kernel_rfl) (S_val (.bool false) (by kernel_rfl) (S_nil (R_seq (R_seq (R_region (S_val (.bool false) (by kernel_rfl) (S_val (.bool true) (by kernel_rfl) (S_nil (?_))))))))))))
    refine R_yes (by kernel_rfl) (R_seq (R_region (S_val (.agg #[.int .i64 0, .int .u64 0]) (by kernel_rfl) (S_store 2 0 #[.int .i64 0, .int .u64 0] hM59 (by kernel_rfl) (fun w63 hM64 => S_val (.bool false) (by kernel_rfl) (S_nil (?_)))))))
    refine R_ret hM64 rfl (.cons (.cell _ _ 2 0 (.agg #[.int .i64 0, .int .u64 0]) (by kernel_rfl)) (.cons (.tmp _ (.bool false) (by kernel_rfl)) .nil)) rfl ?_
    exact ⟨congrArg Ending.returned (show .tuple #[.agg #[.int .i64 0, .int .u64 0], .bool false] = e_umbraref01_ToWide (toW xP) from (eW (toW_no p_x10 h22 h57) wHi_zero.symm wLo_zero.symm)), hM64.below⟩
  · refine S_val (.tuple #[.int .i64 r60, .bool true]) (by kernel_rfl) (S_val (.int .i64 r60) (by kernel_rfl) (S_val (.bool true) (by kernel_rfl) (S_val (.int .i64 r60) (by kernel_rfl) (S_val (.bool true) (by kernel_rfl) (S_nil (R_seq (R_seq (R_region (S_val (.bool true) (by kernel_rfl) (S_val (.bool false) (by kernel_rfl) (S_nil (?_))))))))))))
    refine R_no (by kernel_rfl) (R_skip (R_seq (R_region (S_val (.int .u64 0) (by kernel_rfl) (S_nil (R_seq (R_seq (R_region (S_val (.int .i64 3) (by kernel_rfl) (S_nil (R_block (?_))))))))))))
    refine R_loop (R_seq (R_seq (R_region (S_val (.int .i64 3) (by kernel_rfl) (S_val (.bool true) (by kernel_rfl) (S_nil (R_yes (by kernel_rfl) (R_skip (R_seq (R_block (R_region (?_))))))))))))
    refine S_val (.int .u64 0) (by kernel_rfl) (S_val (.int .u64 0) (by kernel_rfl) (S_load 0 0 (.agg #[.bool b28, .slice A33 (List.length l29) cap34]) hM59 (by kernel_rfl) (S_val (.int .i64 3) (by kernel_rfl) (S_call (dg y23 3) (fun r : Int => .int .i64 r) hM59 (k_digit b28 l29 y23 3 (nv_nb hn30 (by omega)) A33 (List.length l29) cap34 rfl hc36 (by omega) w58 (hM59.ent 1 rfl)) (by kernel_rfl) (fun r65 h66 w67 hM68 => S_int (IntKind.u64.wrap r65) .u64 (by kernel_rfl) (fun x69 h70 => S_int (bits .or .u64 0 x69) .u64 (by kernel_rfl) (fun x71 h72 => S_val (.int .u64 x71) (by kernel_rfl) (S_nil (R_inBlock (R_region (S_val (.int .i64 3) (by kernel_rfl) (?_))))))))))))
    refine S_val (.int .i64 2) (by kernel_rfl) (S_val (.int .i64 2) (by kernel_rfl) (S_nil (R_inLoop (R_seq (R_seq (R_region (S_val (.int .i64 2) (by kernel_rfl) (S_val (.bool true) (by kernel_rfl) (S_nil (R_yes (by kernel_rfl) (R_skip (?_))))))))))))
    refine R_seq (R_block (R_region (S_val (.int .u64 x71) (by kernel_rfl) (S_int (IntKind.u64.wrap (x71 * 2 ^ 16)) .u64 (by kernel_rfl) (fun x73 h74 => S_load 0 0 (.agg #[.bool b28, .slice A33 (List.length l29) cap34]) hM68 (by kernel_rfl) (S_val (.int .i64 2) (by kernel_rfl) (S_call (dg y23 2) (fun r : Int => .int .i64 r) hM68 (k_digit b28 l29 y23 2 (nv_nb hn30 (by omega)) A33 (List.length l29) cap34 rfl hc36 (by omega) w67 (hM68.ent 1 rfl)) (by kernel_rfl) (fun r75 h76 w77 hM78 => S_int (IntKind.u64.wrap r75) .u64 (by kernel_rfl) (fun x79 h80 => S_int (bits .or .u64 x73 x79) .u64 (by kernel_rfl) (fun x81 h82 => S_val (.int .u64 x81) (by kernel_rfl) (S_nil (?_))))))))))))
    refine R_inBlock (R_region (S_val (.int .i64 2) (by kernel_rfl) (S_val (.int .i64 1) (by kernel_rfl) (S_val (.int .i64 1) (by kernel_rfl) (S_nil (R_inLoop (R_seq (R_seq (R_region (S_val (.int .i64 1) (by kernel_rfl) (S_val (.bool true) (by kernel_rfl) (?_))))))))))))
    refine S_nil (R_yes (by kernel_rfl) (R_skip (R_seq (R_block (R_region (S_val (.int .u64 x81) (by kernel_rfl) (S_int (IntKind.u64.wrap (x81 * 2 ^ 16)) .u64 (by kernel_rfl) (fun x83 h84 => S_load 0 0 (.agg #[.bool b28, .slice A33 (List.length l29) cap34]) hM78 (by kernel_rfl) (S_val (.int .i64 1) (by kernel_rfl) (S_call (dg y23 1) (fun r : Int => .int .i64 r) hM78 (k_digit b28 l29 y23 1 (nv_nb hn30 (by omega)) A33 (List.length l29) cap34 rfl hc36 (by omega) w77 (hM78.ent 1 rfl)) (by kernel_rfl) (fun r85 h86 w87 hM88 => S_int (IntKind.u64.wrap r85) .u64 (by kernel_rfl) (fun x89 h90 => ?_))))))))))))
    refine S_int (bits .or .u64 x83 x89) .u64 (by kernel_rfl) (fun x91 h92 => S_val (.int .u64 x91) (by kernel_rfl) (S_nil (R_inBlock (R_region (S_val (.int .i64 1) (by kernel_rfl) (S_val (.int .i64 0) (by kernel_rfl) (S_val (.int .i64 0) (by kernel_rfl) (S_nil (R_inLoop (R_seq (R_seq (?_))))))))))))
    refine R_region (S_val (.int .i64 0) (by kernel_rfl) (S_val (.bool true) (by kernel_rfl) (S_nil (R_yes (by kernel_rfl) (R_skip (R_seq (R_block (R_region (S_val (.int .u64 x91) (by kernel_rfl) (S_int (IntKind.u64.wrap (x91 * 2 ^ 16)) .u64 (by kernel_rfl) (fun x93 h94 => S_load 0 0 (.agg #[.bool b28, .slice A33 (List.length l29) cap34]) hM88 (by kernel_rfl) (?_))))))))))))
    refine S_val (.int .i64 0) (by kernel_rfl) (S_call (dg y23 0) (fun r : Int => .int .i64 r) hM88 (k_digit b28 l29 y23 0 (nv_nb hn30 (by omega)) A33 (List.length l29) cap34 rfl hc36 (by omega) w87 (hM88.ent 1 rfl)) (by kernel_rfl) (fun r95 h96 w97 hM98 => S_int (IntKind.u64.wrap r95) .u64 (by kernel_rfl) (fun x99 h100 => S_int (bits .or .u64 x93 x99) .u64 (by kernel_rfl) (fun x101 h102 => S_val (.int .u64 x101) (by kernel_rfl) (S_nil (R_inBlock (R_region (S_val (.int .i64 0) (by kernel_rfl) (S_val (.int .i64 (-1)) (by kernel_rfl) (S_val (.int .i64 (-1)) (by kernel_rfl) (S_nil (?_))))))))))))
    refine R_inLoop (R_seq (R_seq (R_region (S_val (.int .i64 (-1)) (by kernel_rfl) (S_val (.bool false) (by kernel_rfl) (S_nil (R_no (by kernel_rfl) (R_exit rfl (R_seq (R_region (S_val (.int .i64 r60) (by kernel_rfl) (?_))))))))))))
    refine S_val (.int .u64 x101) (by kernel_rfl) (S_val (.agg #[.int .i64 r60, .int .u64 x101]) (by kernel_rfl) (S_store 2 0 #[.int .i64 r60, .int .u64 x101] hM98 (by kernel_rfl) (fun w103 hM104 => S_val (.bool true) (by kernel_rfl) (S_nil (?_)))))
    refine R_ret hM104 rfl (.cons (.cell _ _ 2 0 (.agg #[.int .i64 r60, .int .u64 x101]) (by kernel_rfl)) (.cons (.tmp _ (.bool true) (by kernel_rfl)) .nil)) rfl ?_
    have hend := toW_end p_x10 h22 h24 h57 h66 h76 h86 h96 h70 h72 h74 h80 h82 h84 h90 h92 h94 h100 h102
    exact ⟨congrArg Ending.returned (show .tuple #[.agg #[.int .i64 r60, .int .u64 x101], .bool true] = e_umbraref01_ToWide (toW xP) from (eW hend.1 hend.2.1 hend.2.2)), hM104.below⟩

theorem toW_WT (x : Int) : InW (toW x).1 ∧ True := ⟨toW_W x, trivial⟩

def rootI (x : Int) : Int := if x < 0 then 0 else sqN x
theorem root_neg {x : Int} (h : x < 0) : 0 = rootI x := by unfold rootI; rw [if_pos h]
theorem rt_len {b : Bool} {l : List Int} {x : Int} (h : NC b l x) (hx : -170141183460469231731687303715884105728 ≤ x ∧ x ≤ 170141183460469231731687303715884105728) : l.length ≤ 8 := by
  rw [h.2]
  exact digs_len x 8 (by have e : (65536 : Int) ^ 8 = 340282366920938463463374607431768211456 := by decide +kernel
                         rw [e, absI_eq]; omega)
theorem p2s {i : Int} (hi : 0 ≤ i) : (2 : Int) ^ Int.toNat (i + 1) = 2 * 2 ^ Int.toNat i := by
  rw [show Int.toNat (i + 1) = Int.toNat i + 1 by omega, Int.pow_succ]; omega
theorem p2pos (n : Nat) : (0 : Int) < 2 ^ n := Int.pow_pos (by omega)
theorem root_0 {b : Bool} {l : List Int} {x n : Int} (h : NC b l x) (hx : 0 ≤ x ∧ x ≤ 170141183460469231731687303715884105728) (hn : IntKind.i64.wrap (8 * (List.length l : Int)) = n) :
    (-1 ≤ n ∧ n ≤ 64) ∧ (0 ≤ (0 : Int) ∧ (0 : Int) + 2 ^ Int.toNat (n + 1) ≤ 36893488147419103232) ∧ ((0 : Int) * 0 ≤ x ∧ x < (0 + 2 ^ Int.toNat (n + 1)) * (0 + 2 ^ Int.toNat (n + 1))) := by
  have hl := rt_len h (by omega)
  rw [wrI, w64' (by omega)] at hn
  have hb := (dval_bd (nv_nb h (by omega)).dg).2
  rw [nv_abs (nv_nb h (by omega)), absI_pos hx.1] at hb
  have e : Int.toNat (n + 1) = 8 * l.length + 1 := by omega
  rw [e]
  refine ⟨by omega, ⟨by omega, ?_⟩, by omega, ?_⟩
  · have key : ∀ k : Nat, k ≤ 8 → (2 : Int) ^ (8 * k + 1) ≤ 36893488147419103232 := by decide +kernel
    have := key l.length hl
    omega
  · rw [Int.pow_succ, Int.zero_add]
    have e2 : (65536 : Int) ^ l.length = 2 ^ (8 * l.length) * 2 ^ (8 * l.length) := by
      rw [← Int.pow_add, show 8 * l.length + 8 * l.length = 16 * l.length by omega, Int.pow_mul]; rfl
    rw [e2] at hb
    have hp := p2pos (8 * l.length)
    generalize (2 : Int) ^ (8 * l.length) = P at *
    have e3 : P * 2 * (P * 2) = 4 * (P * P) := by grind
    have := Int.mul_pos hp hp
    rw [e3]
    omega
theorem root_bd {r P x2 x3 : Int} (h : 0 ≤ r ∧ r + 2 * P ≤ 36893488147419103232) (hP : 0 < P) (h2 : r + P = x2) (h3 : x2 * x2 = x3) : 0 ≤ x3 ∧ x3 ≤ 1361129467683753853853498429727072845824 := by
  subst h3
  have h4 : 0 ≤ x2 ∧ x2 ≤ 36893488147419103232 := by omega
  have h5 := Int.mul_nonneg h4.1 h4.1
  have h6 := Int.mul_le_mul_of_nonneg_right h4.2 h4.1
  have h7 : (36893488147419103232 : Int) * x2 ≤ 36893488147419103232 * 36893488147419103232 := by omega
  omega
theorem root_step {x i r x1 x2 x3 i' : Int} (hi : 0 ≤ i ∧ i ≤ 64) (k2 : 0 ≤ r ∧ r + 2 ^ Int.toNat (i + 1) ≤ 36893488147419103232) (k3 : r * r ≤ x ∧ x < (r + 2 ^ Int.toNat (i + 1)) * (r + 2 ^ Int.toNat (i + 1)))
    (h1 : 2 ^ Int.toNat i = x1) (h2 : r + x1 = x2) (h3 : x2 * x2 = x3) (ei : IntKind.i64.wrap (i - 1) = i') :
    (x3 - x ≤ 0 → (-1 ≤ i' ∧ i' ≤ 64) ∧ (0 ≤ x2 ∧ x2 + 2 ^ Int.toNat (i' + 1) ≤ 36893488147419103232) ∧ (x2 * x2 ≤ x ∧ x < (x2 + 2 ^ Int.toNat (i' + 1)) * (x2 + 2 ^ Int.toNat (i' + 1)))) ∧
    (¬ x3 - x ≤ 0 → (-1 ≤ i' ∧ i' ≤ 64) ∧ (0 ≤ r ∧ r + 2 ^ Int.toNat (i' + 1) ≤ 36893488147419103232) ∧ (r * r ≤ x ∧ x < (r + 2 ^ Int.toNat (i' + 1)) * (r + 2 ^ Int.toNat (i' + 1)))) := by
  rw [wrI, w64' (by omega)] at ei
  have e : i' + 1 = i := by omega
  rw [p2s hi.1, h1] at k2 k3
  rw [e, h1]
  have hp := p2pos (Int.toNat i)
  rw [h1] at hp
  subst h3
  have e2 : r + 2 * x1 = x2 + x1 := by omega
  rw [e2] at k2 k3
  refine ⟨fun c => ⟨by omega, by omega, by omega, k3.2⟩, fun c => ⟨by omega, by omega, k3.1, ?_⟩⟩
  rw [h2]; omega
theorem root_end {x i r : Int} (hx : 0 ≤ x ∧ x ≤ 170141183460469231731687303715884105728) (hi : -1 ≤ i) (hn : ¬ i ≥ 0) (k2 : 0 ≤ r) (k3 : r * r ≤ x ∧ x < (r + 2 ^ Int.toNat (i + 1)) * (r + 2 ^ Int.toNat (i + 1))) : r = rootI x := by
  have e : Int.toNat (i + 1) = 0 := by omega
  rw [e, Int.pow_zero] at k3
  unfold rootI
  rw [if_neg (by omega)]
  exact IsRoot.uniq ⟨k2, k3⟩ (sqN_root hx.1 (by omega)).1

theorem fq_abs (x d : Int) : -absI x ≤ fq x d ∧ fq x d ≤ absI x := by
  have key : ∀ (x d : Int), 0 < d → -absI x ≤ x / d ∧ x / d ≤ absI x := by
    intro x d hd
    have h1 := Int.mul_ediv_add_emod x d
    have h2 := Int.emod_nonneg x (Int.ne_of_gt hd)
    have h3 := Int.emod_lt_of_pos x hd
    have ha := absI_eq x
    constructor
    · rcases Int.le_total 0 (x / d) with g | g
      · omega
      · have := Int.mul_le_mul_of_nonneg_right (show 1 ≤ d by omega) (show 0 ≤ -(x / d) by omega)
        have e : d * -(x / d) = -(d * (x / d)) := by grind
        by_cases hz : x < 0
        · by_cases hz2 : -x < -(x / d)
          · exfalso
            have h6 := Int.mul_le_mul_of_nonneg_right (show 1 ≤ d by omega) (show 0 ≤ -(x / d) - 1 by omega)
            have e6 : d * (-(x / d) - 1) = -(d * (x / d)) - d := by grind
            omega
          · omega
        · have := Int.ediv_nonneg (show 0 ≤ x by omega) (Int.le_of_lt hd)
          omega
    · rcases Int.le_total 0 (x / d) with g | g
      · have := Int.mul_le_mul_of_nonneg_right (show 1 ≤ d by omega) g
        omega
      · omega
  unfold fq
  split
  · exact key x d (by assumption)
  · by_cases hd : d = 0
    · subst hd; simp; have := absI_nn x; omega
    · have := key (-x) (-d) (by omega)
      have e : absI (-x) = absI x := by rw [absI_eq, absI_eq]; omega
      rw [e] at this
      exact this
theorem mulI_bd {a b x1 x2 x3 : Int} (ha : InI a) (hb : InI b) (h1 : a = x1) (h2 : b = x2) (h3 : x1 * x2 = x3) : -170141183460469231731687303715884105728 ≤ x3 ∧ x3 ≤ 170141183460469231731687303715884105728 := by
  subst h1 h2 h3
  have := mul_InW ha hb
  unfold InW at this
  omega
theorem md_end {a b c x1 x2 x3 x4 q r : Int} (h1 : a = x1) (h2 : b = x2) (h3 : x1 * x2 = x3) (h4 : c = x4) (hc : ¬ c = 0) (hq : fq x3 x4 = q) (hr : clampI q = r) : r = mdN a b c := by
  subst h1 h2 h3 h4 hq hr
  unfold mdN
  rw [if_neg hc]
theorem md_0 {a b c : Int} (hc : c = 0) : 0 = mdN a b c := by unfold mdN; rw [if_pos hc]
theorem toW_iff (x : Int) : toW x = (if InWb x then x else 0, InWb x) := by
  unfold toW
  split
  · rename_i h
    rw [InWb_true h]; rfl
  · rename_i h
    rw [InWb_false h]; rfl
theorem div_f {a d x1 x2 q w : Int} (h1 : a = x1) (h2 : d = x2) (hq : fq x1 x2 = q) (hw : toW q = (w, false)) : (0, 0, false) = wdivT a d := by
  subst h1 h2 hq
  rw [toW_iff] at hw
  have e := congrArg Prod.snd hw
  have e' : divOk a d = false := by unfold divOk; rw [show InWb (fq a d) = false from e, Bool.and_false]
  unfold wdivT divQ divR
  rw [e']
  rfl
theorem div_t {a d x1 x2 q r w n : Int} {b : Bool} (hd0 : ¬ d = 0) (hdI : InI d) (h1 : a = x1) (h2 : d = x2) (hq : fq x1 x2 = q) (hr : fr x1 x2 = r) (hw : toW q = (w, true)) (hn : toI r = (n, b)) : (w, n, true) = wdivT a d := by
  subst h1 h2 hq hr
  rw [toW_iff] at hw
  have e := congrArg Prod.snd hw
  have e1 : InWb (fq a d) = true := e
  have e2 : w = fq a d := by have := congrArg Prod.fst hw; rw [e1] at this; exact this.symm
  have e' : divOk a d = true := by unfold divOk; rw [e1, decide_eq_true hd0]; rfl
  have hI := divR_in a hdI
  have e3 : n = fr a d := by
    unfold divR at hI
    rw [if_pos e'] at hI
    unfold InI at hI
    unfold toI at hn
    rw [if_pos (by omega)] at hn
    exact (congrArg Prod.fst hn).symm
  unfold wdivT divQ divR
  rw [e', if_pos rfl, if_pos rfl, ← e2, ← e3]
theorem div_0 {a d : Int} (h : d = 0) : (0, 0, false) = wdivT a d := by
  subst h
  unfold wdivT divQ divR
  rw [divOk_zero]; rfl
theorem fr_bd (x : Int) {d : Int} (h : d ≠ 0) : -absI d ≤ fr x d ∧ fr x d ≤ absI d := by
  unfold fr
  have ha := absI_eq d
  split
  · have h1 := Int.emod_nonneg x h
    have h2 := Int.emod_lt_of_pos x (show 0 < d by omega)
    omega
  · have h1 := Int.emod_nonneg (-x) (show -d ≠ 0 by omega)
    have h2 := Int.emod_lt_of_pos (-x) (show 0 < -d by omega)
    omega

def wE (x : Int) : List Value := [.int .i64 (wHi x), .int .u64 (wLo x)]
theorem wE_len (x : Int) : (wE x).length = 2 := rfl
theorem gdW {l : List Int} (hI : ∀ x ∈ l, InW x) {i : Int} (hi : 0 ≤ i ∧ i < (List.length l : Int)) : InW (gd 0 l i) := hI _ (gd_mem 0 hi)
theorem ad_yes {l : List Int} {i s x1 x2 x3 r : Int} (hi : 0 ≤ i ∧ i < (List.length l : Int)) (hl : (List.length l : Int) ≤ 1000000) (k : addL s (l.drop (Int.toNat i)) = addL 0 l) (h1 : s = x1) (h2 : gd 0 l i = x2) (h3 : x1 + x2 = x3) (hr : toW x3 = (r, true)) {i' : Int} (ei : IntKind.i64.wrap (i + 1) = i') :
    (-170141183460469231731687303715884105728 ≤ r ∧ r < 170141183460469231731687303715884105728) ∧ addL r (l.drop (Int.toNat i')) = addL 0 l ∧ i' = i + 1 := by
  rw [wrI, w64' (by omega)] at ei
  obtain ⟨h', e⟩ := gd_lt 0 hi
  subst h1 h2 h3
  rw [e] at hr
  rw [toW_iff] at hr
  have e1 : InWb (s + l[Int.toNat i]) = true := congrArg Prod.snd hr
  have e2 : r = s + l[Int.toNat i] := by have := congrArg Prod.fst hr; simp only [e1, if_true] at this; exact this.symm
  have hW := InWb_iff.1 e1
  refine ⟨by rw [e2]; unfold InW at hW; exact hW, ?_, ei.symm⟩
  rw [← k, addL_yes h' hW, e2, ← ei, show Int.toNat (i + 1) = Int.toNat i + 1 by omega]
theorem ad_no {l : List Int} {i s x1 x2 x3 r : Int} (hi : 0 ≤ i ∧ i < (List.length l : Int)) (k : addL s (l.drop (Int.toNat i)) = addL 0 l) (h1 : s = x1) (h2 : gd 0 l i = x2) (h3 : x1 + x2 = x3) (hr : toW x3 = (r, false)) : (0, false) = addW l := by
  obtain ⟨h', e⟩ := gd_lt 0 hi
  subst h1 h2 h3
  rw [e] at hr
  rw [toW_iff] at hr
  have e1 : InWb (s + l[Int.toNat i]) = false := congrArg Prod.snd hr
  have hW : ¬ InW (s + l[Int.toNat i]) := fun q => by rw [InWb_true q] at e1; cases e1
  rw [addL_no h' hW] at k
  unfold addW
  rw [← k]; rfl
theorem ad_end {l : List Int} {i s : Int} (hi : 0 ≤ i) (hn : ¬ i < (List.length l : Int)) (k : addL s (l.drop (Int.toNat i)) = addL 0 l) : (s, true) = addW l := by
  rw [List.drop_eq_nil_of_le (by omega)] at k
  unfold addW
  rw [← k]; rfl

end Go.Proofs.Ytognbeejobfpfaa
