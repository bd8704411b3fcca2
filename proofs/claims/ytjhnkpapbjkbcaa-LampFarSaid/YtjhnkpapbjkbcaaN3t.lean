/- Walk: umbraref03.Toward is vtow. umbraref03.Toward is vtow. -/
import Derived.Test.YtjhnkpapbjkbcaaGoC
import Derived.Test.YtjhnkpapbjkbcaaWalkE
import Derived.Test.YtjhnkpapbjkbcaaRef2G
import Derived.Test.YtjhnkpapbjkbcaaNK
namespace Go.Proofs.Ytjhnkpapbjkbcaa
open Go.RowKit Go.Sort
set_option linter.unusedVariables false
set_option linter.unusedSimpArgs false

def e_umbraref03_part (r : Int) : Value := .int .i64 r
def s_umbraref03_part (n : Int) : Int :=
  if n < (-1073741824) then
    (-1073741824)
  else
    if n > 1073741824 then
      1073741824
    else
      n
set_option maxRecDepth 100000 in
set_option maxHeartbeats 4000000 in
theorem w_umbraref03_part (n : Int) (w : World) : Calls Try.prog 102 #[.int .i64 n] w (Ret (e_umbraref03_part (s_umbraref03_part n)) w) := by
  obtain ⟨R, HR⟩ : ∃ R, e_umbraref03_part (s_umbraref03_part n) = R := ⟨_, rfl⟩
  rw [HR]
  unfold s_umbraref03_part at HR
  have hM0 := St.start w
  refine calls_run Try.func102 rfl ?_
  refine R_seq (R_region (S_val (.int .i64 0) (by kernel_rfl) (S_nil (R_seq (R_seq (R_region (S_val (.int .i64 n) (by kernel_rfl) (?_))))))))
  refine S_dec (n < (-1073741824)) (by kernel_rfl) (fun c1 => ?_) (fun c1 => ?_)
  · refine S_nil (R_yes (by kernel_rfl) (R_region (S_val (.int .i64 (-1073741824)) (by kernel_rfl) (S_nil (R_seq (R_seq (R_region (S_val (.int .i64 (-1073741824)) (by kernel_rfl) (S_val (.bool false) (by kernel_rfl) (S_nil (R_no (by kernel_rfl) (?_))))))))))))
    have HR := hr_pos HR c1
    refine R_skip (R_seq (R_region (S_val (.int .i64 (-1073741824)) (by kernel_rfl) (S_val (.int .i64 (-1073741824)) (by kernel_rfl) (S_nil (?_))))))
    refine R_ret hM0 rfl (.cons (.tmp _ (.int .i64 (-1073741824)) (by kernel_rfl)) .nil) rfl ?_
    exact ⟨congrArg Ending.returned HR, hM0.below⟩
  · refine S_nil (R_no (by kernel_rfl) (R_skip (R_seq (R_seq (R_region (S_val (.int .i64 n) (by kernel_rfl) (?_)))))))
    have HR := hr_neg HR c1
    refine S_dec (n > 1073741824) (by kernel_rfl) (fun c2 => ?_) (fun c2 => ?_)
    · refine S_nil (R_yes (by kernel_rfl) (R_region (S_val (.int .i64 1073741824) (by kernel_rfl) (S_nil (R_seq (R_region (S_val (.int .i64 1073741824) (by kernel_rfl) (S_val (.int .i64 1073741824) (by kernel_rfl) (S_nil (?_))))))))))
      have HR := hr_pos HR c2
      refine R_ret hM0 rfl (.cons (.tmp _ (.int .i64 1073741824) (by kernel_rfl)) .nil) rfl ?_
      exact ⟨congrArg Ending.returned HR, hM0.below⟩
    · refine S_nil (R_no (by kernel_rfl) (R_skip (R_seq (R_region (S_val (.int .i64 n) (by kernel_rfl) (S_val (.int .i64 n) (by kernel_rfl) (S_nil (?_))))))))
      have HR := hr_neg HR c2
      refine R_ret hM0 rfl (.cons (.tmp _ (.int .i64 n) (by kernel_rfl)) .nil) rfl ?_
      exact ⟨congrArg Ending.returned HR, hM0.below⟩

theorem sPart_eq (n : Int) : s_umbraref03_part n = clip n := by
  unfold s_umbraref03_part clip
  repeat' split
  all_goals omega
theorem clip_I (n : Int) : InI (clip n) := by have := clip_bd n; unfold InI; omega
theorem c_part (n : Int) (w : World) : Calls Try.prog 102 #[.int .i64 n] w (Ret (.int .i64 (clip n)) w) := by
  have h := w_umbraref03_part n w
  rw [sPart_eq] at h
  exact h
def rootU (h l : Int) : Int := sqN (h * 18446744073709551616 + l)
theorem rootU_bd {h l : Int} (hh : InU h) (hl : InU l) : 0 ≤ rootU h l ∧ rootU h l ≤ 18446744073709551615 := by
  unfold InU at *
  unfold rootU
  obtain ⟨⟨r0, r1, r2⟩, -⟩ := sqN_root (x := h * 18446744073709551616 + l) (by omega) (by omega)
  refine ⟨r0, ?_⟩
  rcases Int.lt_or_le 18446744073709551615 (sqN (h * 18446744073709551616 + l)) with g | g
  · have := sq_mono (a := 18446744073709551616) (b := sqN (h * 18446744073709551616 + l)) (by omega) (by omega)
    omega
  · exact g
theorem rootU_U {h l : Int} (hh : InU h) (hl : InU l) : InU (rootU h l) := by have := rootU_bd hh hl; unfold InU; omega
theorem c_Root (h l : Int) (hh : InU h) (hl : InU l) (w : World) : Calls Try.prog 103 #[.int .u64 h, .int .u64 l] w (Ret (.int .u64 (rootU h l)) w) := by
  unfold InU at hh hl
  have k := rRoot (h * 18446744073709551616 + l) (by omega) (by omega) w
  rw [show wHi (h * 18446744073709551616 + l) = h by unfold wHi; omega, show wLo (h * 18446744073709551616 + l) = l by unfold wLo; omega] at k
  exact k.mono fun _ _ h => h.ret
def dvq (s r : Int) : Int × Int := ((s * 18446744073709551616 + 0) / r, (s * 18446744073709551616 + 0) % r)
theorem c_Div64 (s r : Int) (hs : InU s) (hr : InU r) (h : s < r) (w : World) : Calls Try.prog 87 #[.int .u64 s, .int .u64 0, .int .u64 r] w (Ret (.tuple #[.int .u64 (dvq s r).1, .int .u64 (dvq s r).2]) w) :=
  div64 s 0 r hs.1 h (by have := hr.2; omega) (by omega) (by omega) w
theorem dvq_U {s r : Int} (hs : InU s) (hr : InU r) (h : s < r) : InU (dvq s r).1 ∧ InU (dvq s r).2 := by
  unfold dvq InU at *
  have h1 : 0 < r := by omega
  have a0 := Int.emod_nonneg (s * 18446744073709551616 + 0) (show r ≠ 0 by omega)
  have a1 := Int.emod_lt_of_pos (s * 18446744073709551616 + 0) h1
  have a2 := Int.ediv_nonneg (show 0 ≤ s * 18446744073709551616 + 0 by omega) (show 0 ≤ r by omega)
  have a3 : (s * 18446744073709551616 + 0) / r < 18446744073709551616 := by
    rw [Int.ediv_lt_iff_lt_mul h1]
    omega
  exact ⟨⟨a2, by omega⟩, a0, by omega⟩
theorem c_Near (s : Int) (below big : Bool) (hs : InU s) (w : World) : Calls Try.prog 86 #[.int .u64 s, .bool below, .bool big] w (Ret (.int .i64 (nearV s below big)) w) := (rNear s below big hs.1 (by have := hs.2; omega) w).mono fun _ _ h => h.ret
/-- The root, as the code has it. -/
def towR (p : T3) : Int := rootU (IntKind.u64.wrap (IntKind.i64.wrap (IntKind.i64.wrap (IntKind.i64.wrap (clip p.1 * clip p.1) + IntKind.i64.wrap (clip p.2.1 * clip p.2.1)) + IntKind.i64.wrap (clip p.2.2 * clip p.2.2)))) 0
theorem towR_eq (p : T3) : towR p = vroot p := by
  have h0 := clip_sq (clip_bd p.1)
  have h1 := clip_sq (clip_bd p.2.1)
  have h2 := clip_sq (clip_bd p.2.2)
  unfold towR vroot rootU
  rw [Int.add_zero]
  congr 1
  rw [wr_id (n := clip p.1 * clip p.1) (by unfold InI; omega), wr_id (n := clip p.2.1 * clip p.2.1) (by unfold InI; omega), wr_id (n := clip p.2.2 * clip p.2.2) (by unfold InI; omega),
    wr_id (n := clip p.1 * clip p.1 + clip p.2.1 * clip p.2.1) (by unfold InI; omega), wr_id (n := clip p.1 * clip p.1 + clip p.2.1 * clip p.2.1 + clip p.2.2 * clip p.2.2) (by unfold InI; omega)]
  rw [IntKind.wrap_u64]
  omega
theorem tow_lt (p : T3) (n : Int) (hn : n = clip p.1 ∨ n = clip p.2.1 ∨ n = clip p.2.2) (h : ¬ towR p = 0) : absU n < towR p := by
  rw [towR_eq] at *
  have h0 := clip_sq (clip_bd p.1)
  have h1 := clip_sq (clip_bd p.2.1)
  have h2 := clip_sq (clip_bd p.2.2)
  have hb := vroot_bd p
  have := root_ge (S := clip p.1 * clip p.1 + clip p.2.1 * clip p.2.1 + clip p.2.2 * clip p.2.2) (n := n) (by rcases hn with e | e | e <;> rw [e] <;> omega) (by omega)
  have e : vroot p = sqN ((clip p.1 * clip p.1 + clip p.2.1 * clip p.2.1 + clip p.2.2 * clip p.2.2) * 18446744073709551616) := rfl
  unfold absU
  split <;> omega

def e_umbraref03_Toward (r : Int × Int × Int) : Value := .agg #[.int .i64 r.1, .int .i64 r.2.1, .int .i64 r.2.2]
def s_umbraref03_Toward (p : Int × Int × Int) : Int × Int × Int :=
  lt (clip p.1) fun r10 =>
  lt (clip p.2.1) fun r12 =>
  lt (clip p.2.2) fun r14 =>
  lt (IntKind.i64.wrap (r10 * r10)) fun x18 =>
  lt (IntKind.i64.wrap (r12 * r12)) fun x20 =>
  lt (IntKind.i64.wrap (x18 + x20)) fun x22 =>
  lt (IntKind.i64.wrap (r14 * r14)) fun x24 =>
  lt (IntKind.i64.wrap (x22 + x24)) fun x26 =>
  lt (IntKind.u64.wrap x26) fun x28 =>
  lt (rootU x28 0) fun r30 =>
  if r30 = 0 then
    (0, 0, 0)
  else
    lt (absU r10) fun r40 =>
    lt (dvq r40 r30) fun r44 =>
    if r10 < 0 then
      if r44.2 > 0 then
        lt (IntKind.u64.wrap (r44.1 + 1)) fun x50 =>
        lt (nearV x50 true false) fun r52 =>
        lt (absU r12) fun r65 =>
        lt (dvq r65 r30) fun r69 =>
        if r12 < 0 then
          if r69.2 > 0 then
            lt (IntKind.u64.wrap (r69.1 + 1)) fun x75 =>
            lt (nearV x75 true false) fun r77 =>
            lt (absU r14) fun r90 =>
            lt (dvq r90 r30) fun r94 =>
            if r14 < 0 then
              if r94.2 > 0 then
                lt (IntKind.u64.wrap (r94.1 + 1)) fun x100 =>
                lt (nearV x100 true false) fun r102 =>
                (r52, r77, r102)
              else
                lt (nearV r94.1 true false) fun r122 =>
                (r52, r77, r122)
            else
              lt (nearV r94.1 false false) fun r142 =>
              (r52, r77, r142)
          else
            lt (nearV r69.1 true false) fun r162 =>
            lt (absU r14) fun r175 =>
            lt (dvq r175 r30) fun r179 =>
            if r14 < 0 then
              if r179.2 > 0 then
                lt (IntKind.u64.wrap (r179.1 + 1)) fun x185 =>
                lt (nearV x185 true false) fun r187 =>
                (r52, r162, r187)
              else
                lt (nearV r179.1 true false) fun r207 =>
                (r52, r162, r207)
            else
              lt (nearV r179.1 false false) fun r227 =>
              (r52, r162, r227)
        else
          lt (nearV r69.1 false false) fun r247 =>
          lt (absU r14) fun r260 =>
          lt (dvq r260 r30) fun r264 =>
          if r14 < 0 then
            if r264.2 > 0 then
              lt (IntKind.u64.wrap (r264.1 + 1)) fun x270 =>
              lt (nearV x270 true false) fun r272 =>
              (r52, r247, r272)
            else
              lt (nearV r264.1 true false) fun r292 =>
              (r52, r247, r292)
          else
            lt (nearV r264.1 false false) fun r312 =>
            (r52, r247, r312)
      else
        lt (nearV r44.1 true false) fun r332 =>
        lt (absU r12) fun r345 =>
        lt (dvq r345 r30) fun r349 =>
        if r12 < 0 then
          if r349.2 > 0 then
            lt (IntKind.u64.wrap (r349.1 + 1)) fun x355 =>
            lt (nearV x355 true false) fun r357 =>
            lt (absU r14) fun r370 =>
            lt (dvq r370 r30) fun r374 =>
            if r14 < 0 then
              if r374.2 > 0 then
                lt (IntKind.u64.wrap (r374.1 + 1)) fun x380 =>
                lt (nearV x380 true false) fun r382 =>
                (r332, r357, r382)
              else
                lt (nearV r374.1 true false) fun r402 =>
                (r332, r357, r402)
            else
              lt (nearV r374.1 false false) fun r422 =>
              (r332, r357, r422)
          else
            lt (nearV r349.1 true false) fun r442 =>
            lt (absU r14) fun r455 =>
            lt (dvq r455 r30) fun r459 =>
            if r14 < 0 then
              if r459.2 > 0 then
                lt (IntKind.u64.wrap (r459.1 + 1)) fun x465 =>
                lt (nearV x465 true false) fun r467 =>
                (r332, r442, r467)
              else
                lt (nearV r459.1 true false) fun r487 =>
                (r332, r442, r487)
            else
              lt (nearV r459.1 false false) fun r507 =>
              (r332, r442, r507)
        else
          lt (nearV r349.1 false false) fun r527 =>
          lt (absU r14) fun r540 =>
          lt (dvq r540 r30) fun r544 =>
          if r14 < 0 then
            if r544.2 > 0 then
              lt (IntKind.u64.wrap (r544.1 + 1)) fun x550 =>
              lt (nearV x550 true false) fun r552 =>
              (r332, r527, r552)
            else
              lt (nearV r544.1 true false) fun r572 =>
              (r332, r527, r572)
          else
            lt (nearV r544.1 false false) fun r592 =>
            (r332, r527, r592)
    else
      lt (nearV r44.1 false false) fun r612 =>
      lt (absU r12) fun r625 =>
      lt (dvq r625 r30) fun r629 =>
      if r12 < 0 then
        if r629.2 > 0 then
          lt (IntKind.u64.wrap (r629.1 + 1)) fun x635 =>
          lt (nearV x635 true false) fun r637 =>
          lt (absU r14) fun r650 =>
          lt (dvq r650 r30) fun r654 =>
          if r14 < 0 then
            if r654.2 > 0 then
              lt (IntKind.u64.wrap (r654.1 + 1)) fun x660 =>
              lt (nearV x660 true false) fun r662 =>
              (r612, r637, r662)
            else
              lt (nearV r654.1 true false) fun r682 =>
              (r612, r637, r682)
          else
            lt (nearV r654.1 false false) fun r702 =>
            (r612, r637, r702)
        else
          lt (nearV r629.1 true false) fun r722 =>
          lt (absU r14) fun r735 =>
          lt (dvq r735 r30) fun r739 =>
          if r14 < 0 then
            if r739.2 > 0 then
              lt (IntKind.u64.wrap (r739.1 + 1)) fun x745 =>
              lt (nearV x745 true false) fun r747 =>
              (r612, r722, r747)
            else
              lt (nearV r739.1 true false) fun r767 =>
              (r612, r722, r767)
          else
            lt (nearV r739.1 false false) fun r787 =>
            (r612, r722, r787)
      else
        lt (nearV r629.1 false false) fun r807 =>
        lt (absU r14) fun r820 =>
        lt (dvq r820 r30) fun r824 =>
        if r14 < 0 then
          if r824.2 > 0 then
            lt (IntKind.u64.wrap (r824.1 + 1)) fun x830 =>
            lt (nearV x830 true false) fun r832 =>
            (r612, r807, r832)
          else
            lt (nearV r824.1 true false) fun r852 =>
            (r612, r807, r852)
        else
          lt (nearV r824.1 false false) fun r872 =>
          (r612, r807, r872)
set_option maxRecDepth 100000 in
set_option maxHeartbeats 4000000 in
theorem w_umbraref03_Toward (p : Int × Int × Int) (h_p : InV p) (w : World) : Calls Try.prog 62 #[.agg #[.int .i64 p.1, .int .i64 p.2.1, .int .i64 p.2.2]] w (Ret (e_umbraref03_Toward (s_umbraref03_Toward p)) w) := by
  obtain ⟨R, HR⟩ : ∃ R, e_umbraref03_Toward (s_umbraref03_Toward p) = R := ⟨_, rfl⟩
  rw [HR]
  unfold s_umbraref03_Toward at HR
  have hM0 := St.start w
  refine calls_run Try.func62 rfl ?_
  refine R_seq (R_region (S_fresh none #[.int .i64 p.1, .int .i64 p.2.1, .int .i64 p.2.2] 23 hM0 (by kernel_rfl) (fun g1 w2 hM3 => S_fresh none #[.int .i64 0, .int .i64 0, .int .i64 0] 26 hM3 (by kernel_rfl) (fun g4 w5 hM6 => S_nil (R_seq (R_drawF 12 (by kernel_rfl) (fun F7 U8 hL9 => F_val (.pointer (some ⟨g1, 0, none⟩)) (fun _ => by kernel_rfl) (F_load 1 0 (.int .i64 p.1) hM6 (by kernel_rfl) (F_call (clip p.1) (fun r : Int => .int .i64 r) hM6 hL9 (fun w' hM' => c_part p.1 w') (by kernel_rfl) (fun _ => by kernel_rfl) (fun r10 h11 => F_val (.pointer (some ⟨g1, 1, none⟩)) (fun _ => by kernel_rfl) (F_load 1 1 (.int .i64 p.2.1) hM6 (by kernel_rfl) (?_))))))))))))
  have HR := hr_lt HR h11
  refine F_call (clip p.2.1) (fun r : Int => .int .i64 r) hM6 hL9 (fun w' hM' => c_part p.2.1 w') (by kernel_rfl) (fun _ => by kernel_rfl) (fun r12 h13 => F_val (.pointer (some ⟨g1, 2, none⟩)) (fun _ => by kernel_rfl) (F_load 1 2 (.int .i64 p.2.2) hM6 (by kernel_rfl) (F_call (clip p.2.2) (fun r : Int => .int .i64 r) hM6 hL9 (fun w' hM' => c_part p.2.2 w') (by kernel_rfl) (fun _ => by kernel_rfl) (fun r14 h15 => F_val (.int .i64 r10) (fun _ => by kernel_rfl) (F_val (.int .i64 r12) (fun _ => by kernel_rfl) (F_val (.int .i64 r14) (fun _ => by kernel_rfl) (F_nil hM6 hL9 (fun w16 hM17 => S_nil (R_seq (R_region (S_val (.int .i64 r10) (by kernel_rfl) (?_))))))))))))
  have HR := hr_lt HR h13
  have HR := hr_lt HR h15
  refine S_val (.int .i64 r10) (by kernel_rfl) (S_int (IntKind.i64.wrap (r10 * r10)) .i64 (by kernel_rfl) (fun x18 h19 => S_val (.int .i64 r12) (by kernel_rfl) (S_val (.int .i64 r12) (by kernel_rfl) (S_int (IntKind.i64.wrap (r12 * r12)) .i64 (by kernel_rfl) (fun x20 h21 => S_int (IntKind.i64.wrap (x18 + x20)) .i64 (by kernel_rfl) (fun x22 h23 => S_val (.int .i64 r14) (by kernel_rfl) (S_val (.int .i64 r14) (by kernel_rfl) (S_int (IntKind.i64.wrap (r14 * r14)) .i64 (by kernel_rfl) (fun x24 h25 => S_int (IntKind.i64.wrap (x22 + x24)) .i64 (by kernel_rfl) (fun x26 h27 => S_int (IntKind.u64.wrap x26) .u64 (by kernel_rfl) (fun x28 h29 => S_call (rootU x28 0) (fun r : Int => .int .u64 r) hM17 (c_Root x28 0 (wr_u64 h29) (show InU 0 from by unfold InU; omega) w16) (by kernel_rfl) (fun r30 h31 w32 hM33 => ?_))))))))))))
  have HR := hr_lt HR h19
  have HR := hr_lt HR h21
  have HR := hr_lt HR h23
  have HR := hr_lt HR h25
  have HR := hr_lt HR h27
  have HR := hr_lt HR h29
  have HR := hr_lt HR h31
  refine S_val (.int .u64 r30) (by kernel_rfl) (S_nil (R_seq (R_seq (R_region (S_val (.int .u64 r30) (by kernel_rfl) (?_))))))
  refine S_dec (r30 = 0) (by kernel_rfl) (fun c34 => ?_) (fun c34 => ?_)
  · refine S_nil (R_yes (by kernel_rfl) (R_seq (R_region (S_val (.agg #[.int .i64 0, .int .i64 0, .int .i64 0]) (by kernel_rfl) (S_store 0 0 #[.int .i64 0, .int .i64 0, .int .i64 0] hM33 (by kernel_rfl) (fun w35 hM36 => S_nil (?_)))))))
    have HR := hr_pos HR c34
    refine R_ret hM36 rfl (.cons (.cell _ _ 0 0 (.agg #[.int .i64 0, .int .i64 0, .int .i64 0]) (by kernel_rfl)) .nil) rfl ?_
    exact ⟨congrArg Ending.returned HR, hM36.below⟩
  · refine S_nil (R_no (by kernel_rfl) (R_skip (R_seq (R_region (S_val (.int .i64 r10) (by kernel_rfl) (S_val (.int .i64 r12) (by kernel_rfl) (S_val (.int .i64 r14) (by kernel_rfl) (S_fresh (some 3) #[.int .i64 r10, .int .i64 r12, .int .i64 r14] 3 hM33 (by kernel_rfl) (fun g37 w38 hM39 => S_val (.slice (some ⟨g37, 0, none⟩) 3 3) (by kernel_rfl) (S_nil (R_seq (?_))))))))))))
    have HR := hr_neg HR c34
    refine R_region (S_val (.slice none 0 0) (by kernel_rfl) (S_nil (R_seq (R_seq (R_region (S_val (.int .i64 0) (by kernel_rfl) (S_nil (R_block (R_loop (R_seq (R_seq (?_))))))))))))
    refine R_region (S_val (.int .i64 0) (by kernel_rfl) (S_val (.bool true) (by kernel_rfl) (S_nil (R_yes (by kernel_rfl) (R_skip (R_seq (R_block (R_seq (R_region (S_val (.slice (some ⟨g37, 0, none⟩) 3 3) (by kernel_rfl) (S_val (.int .i64 0) (by kernel_rfl) (?_))))))))))))
    refine S_val (.pointer (some ⟨g37, 0, none⟩)) (by kernel_rfl) (S_load 0 0 (.int .i64 r10) hM39 (by kernel_rfl) (S_call (absU r10) (fun r : Int => .int .u64 r) hM39 (c_umbraref02_Size r10 ((tr (P := fun r : Int => InI r) h11 (clip_I p.1)).out) w38) (by kernel_rfl) (fun r40 h41 w42 hM43 => S_val (.int .u64 r40) (by kernel_rfl) (S_nil (R_seq (R_region (S_val (.int .u64 r40) (by kernel_rfl) (S_val (.int .u64 r30) (by kernel_rfl) (S_call (dvq r40 r30) (fun r : Int × Int => .tuple #[.int .u64 r.1, .int .u64 r.2]) hM43 (c_Div64 r40 r30 ((tr (P := fun r : Int => InU r) h41 (absU_InU ((tr (P := fun r : Int => InI r) h11 (clip_I p.1)).out))).out) ((tr (P := fun r : Int => InU r) h31 (rootU_U (wr_u64 h29) (show InU 0 from by unfold InU; omega))).out) (by subst_vars; first | exact tow_lt p _ (.inl rfl) (by assumption) | exact tow_lt p _ (.inr (.inl rfl)) (by assumption) | exact tow_lt p _ (.inr (.inr rfl)) (by assumption)) w42) (by kernel_rfl) (fun r44 h45 w46 hM47 => S_val (.tuple #[.int .u64 r44.1, .int .u64 r44.2]) (by kernel_rfl) (S_val (.int .u64 r44.1) (by kernel_rfl) (?_))))))))))))
    have HR := hr_lt HR h41
    have HR := hr_lt HR h45
    refine S_val (.int .u64 r44.2) (by kernel_rfl) (S_val (.int .u64 r44.1) (by kernel_rfl) (S_val (.int .u64 r44.2) (by kernel_rfl) (S_nil (R_seq (R_seq (R_region (S_val (.slice (some ⟨g37, 0, none⟩) 3 3) (by kernel_rfl) (S_val (.int .i64 0) (by kernel_rfl) (S_val (.pointer (some ⟨g37, 0, none⟩)) (by kernel_rfl) (S_load 0 0 (.int .i64 r10) hM47 (by kernel_rfl) (?_)))))))))))
    refine S_dec (r10 < 0) (by kernel_rfl) (fun c48 => ?_) (fun c48 => ?_)
    · refine S_val (.bool true) (by kernel_rfl) (S_val (.int .u64 r44.2) (by kernel_rfl) (?_))
      have HR := hr_pos HR c48
      refine S_dec (r44.2 > 0) (by kernel_rfl) (fun c49 => ?_) (fun c49 => ?_)
      · refine S_val (.bool true) (by kernel_rfl) (S_nil (R_yes (by kernel_rfl) (R_region (S_val (.int .u64 r44.1) (by kernel_rfl) (S_int (IntKind.u64.wrap (r44.1 + 1)) .u64 (by kernel_rfl) (fun x50 h51 => S_val (.int .u64 x50) (by kernel_rfl) (S_nil (R_region (S_val (.slice none 0 0) (by kernel_rfl) (S_val (.int .u64 x50) (by kernel_rfl) (S_val (.slice (some ⟨g37, 0, none⟩) 3 3) (by kernel_rfl) (?_))))))))))))
        have HR := hr_pos HR c49
        have HR := hr_lt HR h51
        refine S_val (.int .i64 0) (by kernel_rfl) (S_val (.pointer (some ⟨g37, 0, none⟩)) (by kernel_rfl) (S_load 0 0 (.int .i64 r10) hM47 (by kernel_rfl) (S_val (.bool true) (kdT' c48 (by kernel_rfl)) (S_call (nearV x50 true false) (fun r : Int => .int .i64 r) hM47 (c_Near x50 true false (wr_u64 h51) w46) (by kernel_rfl) (fun r52 h53 w54 hM55 => S_fresh (some 1) #[.int .i64 r52] 24 hM55 (by kernel_rfl) (fun g56 w57 hM58 => S_app0 0 1 1 24 1 8 (.int .i64 0) [.int .i64 r52] hM58 (by kernel_rfl) (by kernel_rfl) (fun g59 cap60 rest61 w62 ok63 hM64 => S_val (.slice (some ⟨g59, 0, none⟩) 1 cap60) (by kernel_rfl) (S_nil (R_inBlock (R_region (S_val (.int .i64 0) (by kernel_rfl) (?_))))))))))))
        have HR := hr_lt HR h53
        refine S_val (.int .i64 1) (by kernel_rfl) (S_val (.int .i64 1) (by kernel_rfl) (S_nil (R_inLoop (R_seq (R_seq (R_region (S_val (.int .i64 1) (by kernel_rfl) (S_val (.bool true) (by kernel_rfl) (S_nil (R_yes (by kernel_rfl) (R_skip (?_))))))))))))
        refine R_seq (R_block (R_seq (R_region (S_val (.slice (some ⟨g37, 0, none⟩) 3 3) (by kernel_rfl) (S_val (.int .i64 1) (by kernel_rfl) (S_val (.pointer (some ⟨g37, 1, none⟩)) (by kernel_rfl) (S_load 2 1 (.int .i64 r12) hM64 (by kernel_rfl) (S_call (absU r12) (fun r : Int => .int .u64 r) hM64 (c_umbraref02_Size r12 ((tr (P := fun r : Int => InI r) h13 (clip_I p.2.1)).out) w62) (by kernel_rfl) (fun r65 h66 w67 hM68 => S_val (.int .u64 r65) (by kernel_rfl) (S_nil (R_seq (?_))))))))))))
        have HR := hr_lt HR h66
        refine R_region (S_val (.int .u64 r65) (by kernel_rfl) (S_val (.int .u64 r30) (by kernel_rfl) (S_call (dvq r65 r30) (fun r : Int × Int => .tuple #[.int .u64 r.1, .int .u64 r.2]) hM68 (c_Div64 r65 r30 ((tr (P := fun r : Int => InU r) h66 (absU_InU ((tr (P := fun r : Int => InI r) h13 (clip_I p.2.1)).out))).out) ((tr (P := fun r : Int => InU r) h31 (rootU_U (wr_u64 h29) (show InU 0 from by unfold InU; omega))).out) (by subst_vars; first | exact tow_lt p _ (.inl rfl) (by assumption) | exact tow_lt p _ (.inr (.inl rfl)) (by assumption) | exact tow_lt p _ (.inr (.inr rfl)) (by assumption)) w67) (by kernel_rfl) (fun r69 h70 w71 hM72 => S_val (.tuple #[.int .u64 r69.1, .int .u64 r69.2]) (by kernel_rfl) (S_val (.int .u64 r69.1) (by kernel_rfl) (S_val (.int .u64 r69.2) (by kernel_rfl) (S_val (.int .u64 r69.1) (by kernel_rfl) (S_val (.int .u64 r69.2) (by kernel_rfl) (S_nil (R_seq (R_seq (?_))))))))))))
        have HR := hr_lt HR h70
        refine R_region (S_val (.slice (some ⟨g37, 0, none⟩) 3 3) (by kernel_rfl) (S_val (.int .i64 1) (by kernel_rfl) (S_val (.pointer (some ⟨g37, 1, none⟩)) (by kernel_rfl) (S_load 2 1 (.int .i64 r12) hM72 (by kernel_rfl) (?_)))))
        refine S_dec (r12 < 0) (by kernel_rfl) (fun c73 => ?_) (fun c73 => ?_)
        · refine S_val (.bool true) (by kernel_rfl) (S_val (.int .u64 r69.2) (by kernel_rfl) (?_))
          have HR := hr_pos HR c73
          refine S_dec (r69.2 > 0) (by kernel_rfl) (fun c74 => ?_) (fun c74 => ?_)
          · refine S_val (.bool true) (by kernel_rfl) (S_nil (R_yes (by kernel_rfl) (R_region (S_val (.int .u64 r69.1) (by kernel_rfl) (S_int (IntKind.u64.wrap (r69.1 + 1)) .u64 (by kernel_rfl) (fun x75 h76 => S_val (.int .u64 x75) (by kernel_rfl) (S_nil (R_region (S_val (.slice (some ⟨g59, 0, none⟩) 1 cap60) (by kernel_rfl) (S_val (.int .u64 x75) (by kernel_rfl) (S_val (.slice (some ⟨g37, 0, none⟩) 3 3) (by kernel_rfl) (?_))))))))))))
            have HR := hr_pos HR c74
            have HR := hr_lt HR h76
            refine S_val (.int .i64 1) (by kernel_rfl) (S_val (.pointer (some ⟨g37, 1, none⟩)) (by kernel_rfl) (S_load 2 1 (.int .i64 r12) hM72 (by kernel_rfl) (S_val (.bool true) (kdT' c73 (by kernel_rfl)) (S_call (nearV x75 true false) (fun r : Int => .int .i64 r) hM72 (c_Near x75 true false (wr_u64 h76) w71) (by kernel_rfl) (fun r77 h78 w79 hM80 => S_fresh (some 1) #[.int .i64 r77] 24 hM80 (by kernel_rfl) (fun g81 w82 hM83 => S_appN 1 0 1 cap60 1 1 24 1 8 (.int .i64 0) [.int .i64 r52] rest61 [.int .i64 r77] hM83 ok63 (by kernel_rfl) (by kernel_rfl) (by omega) (fun g84 cap85 rest86 w87 ok88 hM89 => S_val (.slice (some ⟨g84, 0, none⟩) 2 cap85) (by kernel_rfl) (S_nil (R_inBlock (R_region (S_val (.int .i64 1) (by kernel_rfl) (?_))))))))))))
            have HR := hr_lt HR h78
            refine S_val (.int .i64 2) (by kernel_rfl) (S_val (.int .i64 2) (by kernel_rfl) (S_nil (R_inLoop (R_seq (R_seq (R_region (S_val (.int .i64 2) (by kernel_rfl) (S_val (.bool true) (by kernel_rfl) (S_nil (R_yes (by kernel_rfl) (R_skip (?_))))))))))))
            refine R_seq (R_block (R_seq (R_region (S_val (.slice (some ⟨g37, 0, none⟩) 3 3) (by kernel_rfl) (S_val (.int .i64 2) (by kernel_rfl) (S_val (.pointer (some ⟨g37, 2, none⟩)) (by kernel_rfl) (S_load 3 2 (.int .i64 r14) hM89 (by kernel_rfl) (S_call (absU r14) (fun r : Int => .int .u64 r) hM89 (c_umbraref02_Size r14 ((tr (P := fun r : Int => InI r) h15 (clip_I p.2.2)).out) w87) (by kernel_rfl) (fun r90 h91 w92 hM93 => S_val (.int .u64 r90) (by kernel_rfl) (S_nil (R_seq (?_))))))))))))
            have HR := hr_lt HR h91
            refine R_region (S_val (.int .u64 r90) (by kernel_rfl) (S_val (.int .u64 r30) (by kernel_rfl) (S_call (dvq r90 r30) (fun r : Int × Int => .tuple #[.int .u64 r.1, .int .u64 r.2]) hM93 (c_Div64 r90 r30 ((tr (P := fun r : Int => InU r) h91 (absU_InU ((tr (P := fun r : Int => InI r) h15 (clip_I p.2.2)).out))).out) ((tr (P := fun r : Int => InU r) h31 (rootU_U (wr_u64 h29) (show InU 0 from by unfold InU; omega))).out) (by subst_vars; first | exact tow_lt p _ (.inl rfl) (by assumption) | exact tow_lt p _ (.inr (.inl rfl)) (by assumption) | exact tow_lt p _ (.inr (.inr rfl)) (by assumption)) w92) (by kernel_rfl) (fun r94 h95 w96 hM97 => S_val (.tuple #[.int .u64 r94.1, .int .u64 r94.2]) (by kernel_rfl) (S_val (.int .u64 r94.1) (by kernel_rfl) (S_val (.int .u64 r94.2) (by kernel_rfl) (S_val (.int .u64 r94.1) (by kernel_rfl) (S_val (.int .u64 r94.2) (by kernel_rfl) (S_nil (R_seq (R_seq (?_))))))))))))
            have HR := hr_lt HR h95
            refine R_region (S_val (.slice (some ⟨g37, 0, none⟩) 3 3) (by kernel_rfl) (S_val (.int .i64 2) (by kernel_rfl) (S_val (.pointer (some ⟨g37, 2, none⟩)) (by kernel_rfl) (S_load 3 2 (.int .i64 r14) hM97 (by kernel_rfl) (?_)))))
            refine S_dec (r14 < 0) (by kernel_rfl) (fun c98 => ?_) (fun c98 => ?_)
            · refine S_val (.bool true) (by kernel_rfl) (S_val (.int .u64 r94.2) (by kernel_rfl) (?_))
              have HR := hr_pos HR c98
              refine S_dec (r94.2 > 0) (by kernel_rfl) (fun c99 => ?_) (fun c99 => ?_)
              · refine S_val (.bool true) (by kernel_rfl) (S_nil (R_yes (by kernel_rfl) (R_region (S_val (.int .u64 r94.1) (by kernel_rfl) (S_int (IntKind.u64.wrap (r94.1 + 1)) .u64 (by kernel_rfl) (fun x100 h101 => S_val (.int .u64 x100) (by kernel_rfl) (S_nil (R_region (S_val (.slice (some ⟨g84, 0, none⟩) 2 cap85) (by kernel_rfl) (S_val (.int .u64 x100) (by kernel_rfl) (S_val (.slice (some ⟨g37, 0, none⟩) 3 3) (by kernel_rfl) (?_))))))))))))
                have HR := hr_pos HR c99
                have HR := hr_lt HR h101
                refine S_val (.int .i64 2) (by kernel_rfl) (S_val (.pointer (some ⟨g37, 2, none⟩)) (by kernel_rfl) (S_load 3 2 (.int .i64 r14) hM97 (by kernel_rfl) (S_val (.bool true) (kdT' c98 (by kernel_rfl)) (S_call (nearV x100 true false) (fun r : Int => .int .i64 r) hM97 (c_Near x100 true false (wr_u64 h101) w96) (by kernel_rfl) (fun r102 h103 w104 hM105 => S_fresh (some 1) #[.int .i64 r102] 24 hM105 (by kernel_rfl) (fun g106 w107 hM108 => S_appN 1 0 2 cap85 1 1 24 1 8 (.int .i64 0) [.int .i64 r52, .int .i64 r77] rest86 [.int .i64 r102] hM108 ok88 (by kernel_rfl) (by kernel_rfl) (by omega) (fun g109 cap110 rest111 w112 ok113 hM114 => S_val (.slice (some ⟨g109, 0, none⟩) 3 cap110) (by kernel_rfl) (S_nil (R_inBlock (R_region (S_val (.int .i64 2) (by kernel_rfl) (?_))))))))))))
                have HR := hr_lt HR h103
                refine S_val (.int .i64 3) (by kernel_rfl) (S_val (.int .i64 3) (by kernel_rfl) (S_nil (R_inLoop (R_seq (R_seq (R_region (S_val (.int .i64 3) (by kernel_rfl) (S_val (.bool false) (by kernel_rfl) (S_nil (R_no (by kernel_rfl) (R_exit rfl (?_))))))))))))
                refine R_seq (R_drawF 10 (by kernel_rfl) (fun F115 U116 hL117 => F_val (.slice (some ⟨g109, 0, none⟩) 3 cap110) (fun _ => by kernel_rfl) (F_val (.pointer (some ⟨g109, 0, none⟩)) (fun _ => by kernel_rfl) (F_load 0 0 (.int .i64 r52) hM114 (by kernel_rfl) (F_val (.slice (some ⟨g109, 0, none⟩) 3 cap110) (fun _ => by kernel_rfl) (F_val (.pointer (some ⟨g109, 1, none⟩)) (fun _ => by kernel_rfl) (F_load 0 1 (.int .i64 r77) hM114 (by kernel_rfl) (F_val (.slice (some ⟨g109, 0, none⟩) 3 cap110) (fun _ => by kernel_rfl) (F_val (.pointer (some ⟨g109, 2, none⟩)) (fun _ => by kernel_rfl) (F_load 0 2 (.int .i64 r102) hM114 (by kernel_rfl) (F_val (.agg #[.int .i64 r52, .int .i64 r77, .int .i64 r102]) (fun _ => by kernel_rfl) (?_))))))))))))
                refine F_nil hM114 hL117 (fun w118 hM119 => S_store 5 0 #[.int .i64 r52, .int .i64 r77, .int .i64 r102] hM119 (by kernel_rfl) (fun w120 hM121 => S_nil (?_)))
                refine R_ret hM121 rfl (.cons (.cell _ _ 5 0 (.agg #[.int .i64 r52, .int .i64 r77, .int .i64 r102]) (by kernel_rfl)) .nil) rfl ?_
                exact ⟨congrArg Ending.returned HR, hM121.below⟩
              · refine S_val (.bool false) (by kernel_rfl) (S_nil (R_no (by kernel_rfl) (R_skip (R_region (S_val (.slice (some ⟨g84, 0, none⟩) 2 cap85) (by kernel_rfl) (S_val (.int .u64 r94.1) (by kernel_rfl) (S_val (.slice (some ⟨g37, 0, none⟩) 3 3) (by kernel_rfl) (S_val (.int .i64 2) (by kernel_rfl) (S_val (.pointer (some ⟨g37, 2, none⟩)) (by kernel_rfl) (S_load 3 2 (.int .i64 r14) hM97 (by kernel_rfl) (S_val (.bool true) (kdT' c98 (by kernel_rfl)) (?_))))))))))))
                have HR := hr_neg HR c99
                refine S_call (nearV r94.1 true false) (fun r : Int => .int .i64 r) hM97 (c_Near r94.1 true false ((tr (P := fun r : Int × Int => (InU r.1 ∧ InU r.2)) h95 (dvq_U ((tr (P := fun r : Int => InU r) h91 (absU_InU ((tr (P := fun r : Int => InI r) h15 (clip_I p.2.2)).out))).out) ((tr (P := fun r : Int => InU r) h31 (rootU_U (wr_u64 h29) (show InU 0 from by unfold InU; omega))).out) (by subst_vars; first | exact tow_lt p _ (.inl rfl) (by assumption) | exact tow_lt p _ (.inr (.inl rfl)) (by assumption) | exact tow_lt p _ (.inr (.inr rfl)) (by assumption)))).out.1) w96) (by kernel_rfl) (fun r122 h123 w124 hM125 => S_fresh (some 1) #[.int .i64 r122] 24 hM125 (by kernel_rfl) (fun g126 w127 hM128 => S_appN 1 0 2 cap85 1 1 24 1 8 (.int .i64 0) [.int .i64 r52, .int .i64 r77] rest86 [.int .i64 r122] hM128 ok88 (by kernel_rfl) (by kernel_rfl) (by omega) (fun g129 cap130 rest131 w132 ok133 hM134 => S_val (.slice (some ⟨g129, 0, none⟩) 3 cap130) (by kernel_rfl) (S_nil (R_inBlock (R_region (S_val (.int .i64 2) (by kernel_rfl) (S_val (.int .i64 3) (by kernel_rfl) (S_val (.int .i64 3) (by kernel_rfl) (S_nil (R_inLoop (?_))))))))))))
                have HR := hr_lt HR h123
                refine R_seq (R_seq (R_region (S_val (.int .i64 3) (by kernel_rfl) (S_val (.bool false) (by kernel_rfl) (S_nil (R_no (by kernel_rfl) (R_exit rfl (R_seq (R_drawF 10 (by kernel_rfl) (fun F135 U136 hL137 => F_val (.slice (some ⟨g129, 0, none⟩) 3 cap130) (fun _ => by kernel_rfl) (F_val (.pointer (some ⟨g129, 0, none⟩)) (fun _ => by kernel_rfl) (?_))))))))))))
                refine F_load 0 0 (.int .i64 r52) hM134 (by kernel_rfl) (F_val (.slice (some ⟨g129, 0, none⟩) 3 cap130) (fun _ => by kernel_rfl) (F_val (.pointer (some ⟨g129, 1, none⟩)) (fun _ => by kernel_rfl) (F_load 0 1 (.int .i64 r77) hM134 (by kernel_rfl) (F_val (.slice (some ⟨g129, 0, none⟩) 3 cap130) (fun _ => by kernel_rfl) (F_val (.pointer (some ⟨g129, 2, none⟩)) (fun _ => by kernel_rfl) (F_load 0 2 (.int .i64 r122) hM134 (by kernel_rfl) (F_val (.agg #[.int .i64 r52, .int .i64 r77, .int .i64 r122]) (fun _ => by kernel_rfl) (F_nil hM134 hL137 (fun w138 hM139 => S_store 5 0 #[.int .i64 r52, .int .i64 r77, .int .i64 r122] hM139 (by kernel_rfl) (fun w140 hM141 => S_nil (?_)))))))))))
                refine R_ret hM141 rfl (.cons (.cell _ _ 5 0 (.agg #[.int .i64 r52, .int .i64 r77, .int .i64 r122]) (by kernel_rfl)) .nil) rfl ?_
                exact ⟨congrArg Ending.returned HR, hM141.below⟩
            · refine S_val (.bool false) (by kernel_rfl) (S_skip (by kernel_rfl) (S_skip (by kernel_rfl) (S_val (.bool false) (by kernel_rfl) (S_nil (R_no (by kernel_rfl) (R_skip (R_region (S_val (.slice (some ⟨g84, 0, none⟩) 2 cap85) (by kernel_rfl) (S_val (.int .u64 r94.1) (by kernel_rfl) (S_val (.slice (some ⟨g37, 0, none⟩) 3 3) (by kernel_rfl) (S_val (.int .i64 2) (by kernel_rfl) (?_))))))))))))
              have HR := hr_neg HR c98
              refine S_val (.pointer (some ⟨g37, 2, none⟩)) (by kernel_rfl) (S_load 3 2 (.int .i64 r14) hM97 (by kernel_rfl) (S_val (.bool false) (kdF' c98 (by kernel_rfl)) (S_call (nearV r94.1 false false) (fun r : Int => .int .i64 r) hM97 (c_Near r94.1 false false ((tr (P := fun r : Int × Int => (InU r.1 ∧ InU r.2)) h95 (dvq_U ((tr (P := fun r : Int => InU r) h91 (absU_InU ((tr (P := fun r : Int => InI r) h15 (clip_I p.2.2)).out))).out) ((tr (P := fun r : Int => InU r) h31 (rootU_U (wr_u64 h29) (show InU 0 from by unfold InU; omega))).out) (by subst_vars; first | exact tow_lt p _ (.inl rfl) (by assumption) | exact tow_lt p _ (.inr (.inl rfl)) (by assumption) | exact tow_lt p _ (.inr (.inr rfl)) (by assumption)))).out.1) w96) (by kernel_rfl) (fun r142 h143 w144 hM145 => S_fresh (some 1) #[.int .i64 r142] 24 hM145 (by kernel_rfl) (fun g146 w147 hM148 => S_appN 1 0 2 cap85 1 1 24 1 8 (.int .i64 0) [.int .i64 r52, .int .i64 r77] rest86 [.int .i64 r142] hM148 ok88 (by kernel_rfl) (by kernel_rfl) (by omega) (fun g149 cap150 rest151 w152 ok153 hM154 => S_val (.slice (some ⟨g149, 0, none⟩) 3 cap150) (by kernel_rfl) (S_nil (R_inBlock (R_region (S_val (.int .i64 2) (by kernel_rfl) (S_val (.int .i64 3) (by kernel_rfl) (?_))))))))))))
              have HR := hr_lt HR h143
              refine S_val (.int .i64 3) (by kernel_rfl) (S_nil (R_inLoop (R_seq (R_seq (R_region (S_val (.int .i64 3) (by kernel_rfl) (S_val (.bool false) (by kernel_rfl) (S_nil (R_no (by kernel_rfl) (R_exit rfl (R_seq (?_))))))))))))
              refine R_drawF 10 (by kernel_rfl) (fun F155 U156 hL157 => F_val (.slice (some ⟨g149, 0, none⟩) 3 cap150) (fun _ => by kernel_rfl) (F_val (.pointer (some ⟨g149, 0, none⟩)) (fun _ => by kernel_rfl) (F_load 0 0 (.int .i64 r52) hM154 (by kernel_rfl) (F_val (.slice (some ⟨g149, 0, none⟩) 3 cap150) (fun _ => by kernel_rfl) (F_val (.pointer (some ⟨g149, 1, none⟩)) (fun _ => by kernel_rfl) (F_load 0 1 (.int .i64 r77) hM154 (by kernel_rfl) (F_val (.slice (some ⟨g149, 0, none⟩) 3 cap150) (fun _ => by kernel_rfl) (F_val (.pointer (some ⟨g149, 2, none⟩)) (fun _ => by kernel_rfl) (F_load 0 2 (.int .i64 r142) hM154 (by kernel_rfl) (F_val (.agg #[.int .i64 r52, .int .i64 r77, .int .i64 r142]) (fun _ => by kernel_rfl) (F_nil hM154 hL157 (fun w158 hM159 => ?_))))))))))))
              refine S_store 5 0 #[.int .i64 r52, .int .i64 r77, .int .i64 r142] hM159 (by kernel_rfl) (fun w160 hM161 => S_nil (?_))
              refine R_ret hM161 rfl (.cons (.cell _ _ 5 0 (.agg #[.int .i64 r52, .int .i64 r77, .int .i64 r142]) (by kernel_rfl)) .nil) rfl ?_
              exact ⟨congrArg Ending.returned HR, hM161.below⟩
          · refine S_val (.bool false) (by kernel_rfl) (S_nil (R_no (by kernel_rfl) (R_skip (R_region (S_val (.slice (some ⟨g59, 0, none⟩) 1 cap60) (by kernel_rfl) (S_val (.int .u64 r69.1) (by kernel_rfl) (S_val (.slice (some ⟨g37, 0, none⟩) 3 3) (by kernel_rfl) (S_val (.int .i64 1) (by kernel_rfl) (S_val (.pointer (some ⟨g37, 1, none⟩)) (by kernel_rfl) (S_load 2 1 (.int .i64 r12) hM72 (by kernel_rfl) (S_val (.bool true) (kdT' c73 (by kernel_rfl)) (?_))))))))))))
            have HR := hr_neg HR c74
            refine S_call (nearV r69.1 true false) (fun r : Int => .int .i64 r) hM72 (c_Near r69.1 true false ((tr (P := fun r : Int × Int => (InU r.1 ∧ InU r.2)) h70 (dvq_U ((tr (P := fun r : Int => InU r) h66 (absU_InU ((tr (P := fun r : Int => InI r) h13 (clip_I p.2.1)).out))).out) ((tr (P := fun r : Int => InU r) h31 (rootU_U (wr_u64 h29) (show InU 0 from by unfold InU; omega))).out) (by subst_vars; first | exact tow_lt p _ (.inl rfl) (by assumption) | exact tow_lt p _ (.inr (.inl rfl)) (by assumption) | exact tow_lt p _ (.inr (.inr rfl)) (by assumption)))).out.1) w71) (by kernel_rfl) (fun r162 h163 w164 hM165 => S_fresh (some 1) #[.int .i64 r162] 24 hM165 (by kernel_rfl) (fun g166 w167 hM168 => S_appN 1 0 1 cap60 1 1 24 1 8 (.int .i64 0) [.int .i64 r52] rest61 [.int .i64 r162] hM168 ok63 (by kernel_rfl) (by kernel_rfl) (by omega) (fun g169 cap170 rest171 w172 ok173 hM174 => S_val (.slice (some ⟨g169, 0, none⟩) 2 cap170) (by kernel_rfl) (S_nil (R_inBlock (R_region (S_val (.int .i64 1) (by kernel_rfl) (S_val (.int .i64 2) (by kernel_rfl) (S_val (.int .i64 2) (by kernel_rfl) (S_nil (R_inLoop (?_))))))))))))
            have HR := hr_lt HR h163
            refine R_seq (R_seq (R_region (S_val (.int .i64 2) (by kernel_rfl) (S_val (.bool true) (by kernel_rfl) (S_nil (R_yes (by kernel_rfl) (R_skip (R_seq (R_block (R_seq (R_region (?_))))))))))))
            refine S_val (.slice (some ⟨g37, 0, none⟩) 3 3) (by kernel_rfl) (S_val (.int .i64 2) (by kernel_rfl) (S_val (.pointer (some ⟨g37, 2, none⟩)) (by kernel_rfl) (S_load 3 2 (.int .i64 r14) hM174 (by kernel_rfl) (S_call (absU r14) (fun r : Int => .int .u64 r) hM174 (c_umbraref02_Size r14 ((tr (P := fun r : Int => InI r) h15 (clip_I p.2.2)).out) w172) (by kernel_rfl) (fun r175 h176 w177 hM178 => S_val (.int .u64 r175) (by kernel_rfl) (S_nil (R_seq (R_region (S_val (.int .u64 r175) (by kernel_rfl) (S_val (.int .u64 r30) (by kernel_rfl) (S_call (dvq r175 r30) (fun r : Int × Int => .tuple #[.int .u64 r.1, .int .u64 r.2]) hM178 (c_Div64 r175 r30 ((tr (P := fun r : Int => InU r) h176 (absU_InU ((tr (P := fun r : Int => InI r) h15 (clip_I p.2.2)).out))).out) ((tr (P := fun r : Int => InU r) h31 (rootU_U (wr_u64 h29) (show InU 0 from by unfold InU; omega))).out) (by subst_vars; first | exact tow_lt p _ (.inl rfl) (by assumption) | exact tow_lt p _ (.inr (.inl rfl)) (by assumption) | exact tow_lt p _ (.inr (.inr rfl)) (by assumption)) w177) (by kernel_rfl) (fun r179 h180 w181 hM182 => ?_))))))))))))
            have HR := hr_lt HR h176
            have HR := hr_lt HR h180
            refine S_val (.tuple #[.int .u64 r179.1, .int .u64 r179.2]) (by kernel_rfl) (S_val (.int .u64 r179.1) (by kernel_rfl) (S_val (.int .u64 r179.2) (by kernel_rfl) (S_val (.int .u64 r179.1) (by kernel_rfl) (S_val (.int .u64 r179.2) (by kernel_rfl) (S_nil (R_seq (R_seq (R_region (S_val (.slice (some ⟨g37, 0, none⟩) 3 3) (by kernel_rfl) (S_val (.int .i64 2) (by kernel_rfl) (S_val (.pointer (some ⟨g37, 2, none⟩)) (by kernel_rfl) (?_))))))))))))
            refine S_load 3 2 (.int .i64 r14) hM182 (by kernel_rfl) (?_)
            refine S_dec (r14 < 0) (by kernel_rfl) (fun c183 => ?_) (fun c183 => ?_)
            · refine S_val (.bool true) (by kernel_rfl) (S_val (.int .u64 r179.2) (by kernel_rfl) (?_))
              have HR := hr_pos HR c183
              refine S_dec (r179.2 > 0) (by kernel_rfl) (fun c184 => ?_) (fun c184 => ?_)
              · refine S_val (.bool true) (by kernel_rfl) (S_nil (R_yes (by kernel_rfl) (R_region (S_val (.int .u64 r179.1) (by kernel_rfl) (S_int (IntKind.u64.wrap (r179.1 + 1)) .u64 (by kernel_rfl) (fun x185 h186 => S_val (.int .u64 x185) (by kernel_rfl) (S_nil (R_region (S_val (.slice (some ⟨g169, 0, none⟩) 2 cap170) (by kernel_rfl) (S_val (.int .u64 x185) (by kernel_rfl) (S_val (.slice (some ⟨g37, 0, none⟩) 3 3) (by kernel_rfl) (?_))))))))))))
                have HR := hr_pos HR c184
                have HR := hr_lt HR h186
                refine S_val (.int .i64 2) (by kernel_rfl) (S_val (.pointer (some ⟨g37, 2, none⟩)) (by kernel_rfl) (S_load 3 2 (.int .i64 r14) hM182 (by kernel_rfl) (S_val (.bool true) (kdT' c183 (by kernel_rfl)) (S_call (nearV x185 true false) (fun r : Int => .int .i64 r) hM182 (c_Near x185 true false (wr_u64 h186) w181) (by kernel_rfl) (fun r187 h188 w189 hM190 => S_fresh (some 1) #[.int .i64 r187] 24 hM190 (by kernel_rfl) (fun g191 w192 hM193 => S_appN 1 0 2 cap170 1 1 24 1 8 (.int .i64 0) [.int .i64 r52, .int .i64 r162] rest171 [.int .i64 r187] hM193 ok173 (by kernel_rfl) (by kernel_rfl) (by omega) (fun g194 cap195 rest196 w197 ok198 hM199 => S_val (.slice (some ⟨g194, 0, none⟩) 3 cap195) (by kernel_rfl) (S_nil (R_inBlock (R_region (S_val (.int .i64 2) (by kernel_rfl) (?_))))))))))))
                have HR := hr_lt HR h188
                refine S_val (.int .i64 3) (by kernel_rfl) (S_val (.int .i64 3) (by kernel_rfl) (S_nil (R_inLoop (R_seq (R_seq (R_region (S_val (.int .i64 3) (by kernel_rfl) (S_val (.bool false) (by kernel_rfl) (S_nil (R_no (by kernel_rfl) (R_exit rfl (?_))))))))))))
                refine R_seq (R_drawF 10 (by kernel_rfl) (fun F200 U201 hL202 => F_val (.slice (some ⟨g194, 0, none⟩) 3 cap195) (fun _ => by kernel_rfl) (F_val (.pointer (some ⟨g194, 0, none⟩)) (fun _ => by kernel_rfl) (F_load 0 0 (.int .i64 r52) hM199 (by kernel_rfl) (F_val (.slice (some ⟨g194, 0, none⟩) 3 cap195) (fun _ => by kernel_rfl) (F_val (.pointer (some ⟨g194, 1, none⟩)) (fun _ => by kernel_rfl) (F_load 0 1 (.int .i64 r162) hM199 (by kernel_rfl) (F_val (.slice (some ⟨g194, 0, none⟩) 3 cap195) (fun _ => by kernel_rfl) (F_val (.pointer (some ⟨g194, 2, none⟩)) (fun _ => by kernel_rfl) (F_load 0 2 (.int .i64 r187) hM199 (by kernel_rfl) (F_val (.agg #[.int .i64 r52, .int .i64 r162, .int .i64 r187]) (fun _ => by kernel_rfl) (?_))))))))))))
                refine F_nil hM199 hL202 (fun w203 hM204 => S_store 5 0 #[.int .i64 r52, .int .i64 r162, .int .i64 r187] hM204 (by kernel_rfl) (fun w205 hM206 => S_nil (?_)))
                refine R_ret hM206 rfl (.cons (.cell _ _ 5 0 (.agg #[.int .i64 r52, .int .i64 r162, .int .i64 r187]) (by kernel_rfl)) .nil) rfl ?_
                exact ⟨congrArg Ending.returned HR, hM206.below⟩
              · refine S_val (.bool false) (by kernel_rfl) (S_nil (R_no (by kernel_rfl) (R_skip (R_region (S_val (.slice (some ⟨g169, 0, none⟩) 2 cap170) (by kernel_rfl) (S_val (.int .u64 r179.1) (by kernel_rfl) (S_val (.slice (some ⟨g37, 0, none⟩) 3 3) (by kernel_rfl) (S_val (.int .i64 2) (by kernel_rfl) (S_val (.pointer (some ⟨g37, 2, none⟩)) (by kernel_rfl) (S_load 3 2 (.int .i64 r14) hM182 (by kernel_rfl) (S_val (.bool true) (kdT' c183 (by kernel_rfl)) (?_))))))))))))
                have HR := hr_neg HR c184
                refine S_call (nearV r179.1 true false) (fun r : Int => .int .i64 r) hM182 (c_Near r179.1 true false ((tr (P := fun r : Int × Int => (InU r.1 ∧ InU r.2)) h180 (dvq_U ((tr (P := fun r : Int => InU r) h176 (absU_InU ((tr (P := fun r : Int => InI r) h15 (clip_I p.2.2)).out))).out) ((tr (P := fun r : Int => InU r) h31 (rootU_U (wr_u64 h29) (show InU 0 from by unfold InU; omega))).out) (by subst_vars; first | exact tow_lt p _ (.inl rfl) (by assumption) | exact tow_lt p _ (.inr (.inl rfl)) (by assumption) | exact tow_lt p _ (.inr (.inr rfl)) (by assumption)))).out.1) w181) (by kernel_rfl) (fun r207 h208 w209 hM210 => S_fresh (some 1) #[.int .i64 r207] 24 hM210 (by kernel_rfl) (fun g211 w212 hM213 => S_appN 1 0 2 cap170 1 1 24 1 8 (.int .i64 0) [.int .i64 r52, .int .i64 r162] rest171 [.int .i64 r207] hM213 ok173 (by kernel_rfl) (by kernel_rfl) (by omega) (fun g214 cap215 rest216 w217 ok218 hM219 => S_val (.slice (some ⟨g214, 0, none⟩) 3 cap215) (by kernel_rfl) (S_nil (R_inBlock (R_region (S_val (.int .i64 2) (by kernel_rfl) (S_val (.int .i64 3) (by kernel_rfl) (S_val (.int .i64 3) (by kernel_rfl) (S_nil (R_inLoop (?_))))))))))))
                have HR := hr_lt HR h208
                refine R_seq (R_seq (R_region (S_val (.int .i64 3) (by kernel_rfl) (S_val (.bool false) (by kernel_rfl) (S_nil (R_no (by kernel_rfl) (R_exit rfl (R_seq (R_drawF 10 (by kernel_rfl) (fun F220 U221 hL222 => F_val (.slice (some ⟨g214, 0, none⟩) 3 cap215) (fun _ => by kernel_rfl) (F_val (.pointer (some ⟨g214, 0, none⟩)) (fun _ => by kernel_rfl) (?_))))))))))))
                refine F_load 0 0 (.int .i64 r52) hM219 (by kernel_rfl) (F_val (.slice (some ⟨g214, 0, none⟩) 3 cap215) (fun _ => by kernel_rfl) (F_val (.pointer (some ⟨g214, 1, none⟩)) (fun _ => by kernel_rfl) (F_load 0 1 (.int .i64 r162) hM219 (by kernel_rfl) (F_val (.slice (some ⟨g214, 0, none⟩) 3 cap215) (fun _ => by kernel_rfl) (F_val (.pointer (some ⟨g214, 2, none⟩)) (fun _ => by kernel_rfl) (F_load 0 2 (.int .i64 r207) hM219 (by kernel_rfl) (F_val (.agg #[.int .i64 r52, .int .i64 r162, .int .i64 r207]) (fun _ => by kernel_rfl) (F_nil hM219 hL222 (fun w223 hM224 => S_store 5 0 #[.int .i64 r52, .int .i64 r162, .int .i64 r207] hM224 (by kernel_rfl) (fun w225 hM226 => S_nil (?_)))))))))))
                refine R_ret hM226 rfl (.cons (.cell _ _ 5 0 (.agg #[.int .i64 r52, .int .i64 r162, .int .i64 r207]) (by kernel_rfl)) .nil) rfl ?_
                exact ⟨congrArg Ending.returned HR, hM226.below⟩
            · refine S_val (.bool false) (by kernel_rfl) (S_skip (by kernel_rfl) (S_skip (by kernel_rfl) (S_val (.bool false) (by kernel_rfl) (S_nil (R_no (by kernel_rfl) (R_skip (R_region (S_val (.slice (some ⟨g169, 0, none⟩) 2 cap170) (by kernel_rfl) (S_val (.int .u64 r179.1) (by kernel_rfl) (S_val (.slice (some ⟨g37, 0, none⟩) 3 3) (by kernel_rfl) (S_val (.int .i64 2) (by kernel_rfl) (?_))))))))))))
              have HR := hr_neg HR c183
              refine S_val (.pointer (some ⟨g37, 2, none⟩)) (by kernel_rfl) (S_load 3 2 (.int .i64 r14) hM182 (by kernel_rfl) (S_val (.bool false) (kdF' c183 (by kernel_rfl)) (S_call (nearV r179.1 false false) (fun r : Int => .int .i64 r) hM182 (c_Near r179.1 false false ((tr (P := fun r : Int × Int => (InU r.1 ∧ InU r.2)) h180 (dvq_U ((tr (P := fun r : Int => InU r) h176 (absU_InU ((tr (P := fun r : Int => InI r) h15 (clip_I p.2.2)).out))).out) ((tr (P := fun r : Int => InU r) h31 (rootU_U (wr_u64 h29) (show InU 0 from by unfold InU; omega))).out) (by subst_vars; first | exact tow_lt p _ (.inl rfl) (by assumption) | exact tow_lt p _ (.inr (.inl rfl)) (by assumption) | exact tow_lt p _ (.inr (.inr rfl)) (by assumption)))).out.1) w181) (by kernel_rfl) (fun r227 h228 w229 hM230 => S_fresh (some 1) #[.int .i64 r227] 24 hM230 (by kernel_rfl) (fun g231 w232 hM233 => S_appN 1 0 2 cap170 1 1 24 1 8 (.int .i64 0) [.int .i64 r52, .int .i64 r162] rest171 [.int .i64 r227] hM233 ok173 (by kernel_rfl) (by kernel_rfl) (by omega) (fun g234 cap235 rest236 w237 ok238 hM239 => S_val (.slice (some ⟨g234, 0, none⟩) 3 cap235) (by kernel_rfl) (S_nil (R_inBlock (R_region (S_val (.int .i64 2) (by kernel_rfl) (S_val (.int .i64 3) (by kernel_rfl) (?_))))))))))))
              have HR := hr_lt HR h228
              refine S_val (.int .i64 3) (by kernel_rfl) (S_nil (R_inLoop (R_seq (R_seq (R_region (S_val (.int .i64 3) (by kernel_rfl) (S_val (.bool false) (by kernel_rfl) (S_nil (R_no (by kernel_rfl) (R_exit rfl (R_seq (?_))))))))))))
              refine R_drawF 10 (by kernel_rfl) (fun F240 U241 hL242 => F_val (.slice (some ⟨g234, 0, none⟩) 3 cap235) (fun _ => by kernel_rfl) (F_val (.pointer (some ⟨g234, 0, none⟩)) (fun _ => by kernel_rfl) (F_load 0 0 (.int .i64 r52) hM239 (by kernel_rfl) (F_val (.slice (some ⟨g234, 0, none⟩) 3 cap235) (fun _ => by kernel_rfl) (F_val (.pointer (some ⟨g234, 1, none⟩)) (fun _ => by kernel_rfl) (F_load 0 1 (.int .i64 r162) hM239 (by kernel_rfl) (F_val (.slice (some ⟨g234, 0, none⟩) 3 cap235) (fun _ => by kernel_rfl) (F_val (.pointer (some ⟨g234, 2, none⟩)) (fun _ => by kernel_rfl) (F_load 0 2 (.int .i64 r227) hM239 (by kernel_rfl) (F_val (.agg #[.int .i64 r52, .int .i64 r162, .int .i64 r227]) (fun _ => by kernel_rfl) (F_nil hM239 hL242 (fun w243 hM244 => ?_))))))))))))
              refine S_store 5 0 #[.int .i64 r52, .int .i64 r162, .int .i64 r227] hM244 (by kernel_rfl) (fun w245 hM246 => S_nil (?_))
              refine R_ret hM246 rfl (.cons (.cell _ _ 5 0 (.agg #[.int .i64 r52, .int .i64 r162, .int .i64 r227]) (by kernel_rfl)) .nil) rfl ?_
              exact ⟨congrArg Ending.returned HR, hM246.below⟩
        · refine S_val (.bool false) (by kernel_rfl) (S_skip (by kernel_rfl) (S_skip (by kernel_rfl) (S_val (.bool false) (by kernel_rfl) (S_nil (R_no (by kernel_rfl) (R_skip (R_region (S_val (.slice (some ⟨g59, 0, none⟩) 1 cap60) (by kernel_rfl) (S_val (.int .u64 r69.1) (by kernel_rfl) (S_val (.slice (some ⟨g37, 0, none⟩) 3 3) (by kernel_rfl) (S_val (.int .i64 1) (by kernel_rfl) (?_))))))))))))
          have HR := hr_neg HR c73
          refine S_val (.pointer (some ⟨g37, 1, none⟩)) (by kernel_rfl) (S_load 2 1 (.int .i64 r12) hM72 (by kernel_rfl) (S_val (.bool false) (kdF' c73 (by kernel_rfl)) (S_call (nearV r69.1 false false) (fun r : Int => .int .i64 r) hM72 (c_Near r69.1 false false ((tr (P := fun r : Int × Int => (InU r.1 ∧ InU r.2)) h70 (dvq_U ((tr (P := fun r : Int => InU r) h66 (absU_InU ((tr (P := fun r : Int => InI r) h13 (clip_I p.2.1)).out))).out) ((tr (P := fun r : Int => InU r) h31 (rootU_U (wr_u64 h29) (show InU 0 from by unfold InU; omega))).out) (by subst_vars; first | exact tow_lt p _ (.inl rfl) (by assumption) | exact tow_lt p _ (.inr (.inl rfl)) (by assumption) | exact tow_lt p _ (.inr (.inr rfl)) (by assumption)))).out.1) w71) (by kernel_rfl) (fun r247 h248 w249 hM250 => S_fresh (some 1) #[.int .i64 r247] 24 hM250 (by kernel_rfl) (fun g251 w252 hM253 => S_appN 1 0 1 cap60 1 1 24 1 8 (.int .i64 0) [.int .i64 r52] rest61 [.int .i64 r247] hM253 ok63 (by kernel_rfl) (by kernel_rfl) (by omega) (fun g254 cap255 rest256 w257 ok258 hM259 => S_val (.slice (some ⟨g254, 0, none⟩) 2 cap255) (by kernel_rfl) (S_nil (R_inBlock (R_region (S_val (.int .i64 1) (by kernel_rfl) (S_val (.int .i64 2) (by kernel_rfl) (?_))))))))))))
          have HR := hr_lt HR h248
          refine S_val (.int .i64 2) (by kernel_rfl) (S_nil (R_inLoop (R_seq (R_seq (R_region (S_val (.int .i64 2) (by kernel_rfl) (S_val (.bool true) (by kernel_rfl) (S_nil (R_yes (by kernel_rfl) (R_skip (R_seq (?_))))))))))))
          refine R_block (R_seq (R_region (S_val (.slice (some ⟨g37, 0, none⟩) 3 3) (by kernel_rfl) (S_val (.int .i64 2) (by kernel_rfl) (S_val (.pointer (some ⟨g37, 2, none⟩)) (by kernel_rfl) (S_load 3 2 (.int .i64 r14) hM259 (by kernel_rfl) (S_call (absU r14) (fun r : Int => .int .u64 r) hM259 (c_umbraref02_Size r14 ((tr (P := fun r : Int => InI r) h15 (clip_I p.2.2)).out) w257) (by kernel_rfl) (fun r260 h261 w262 hM263 => S_val (.int .u64 r260) (by kernel_rfl) (S_nil (R_seq (R_region (?_))))))))))))
          have HR := hr_lt HR h261
          refine S_val (.int .u64 r260) (by kernel_rfl) (S_val (.int .u64 r30) (by kernel_rfl) (S_call (dvq r260 r30) (fun r : Int × Int => .tuple #[.int .u64 r.1, .int .u64 r.2]) hM263 (c_Div64 r260 r30 ((tr (P := fun r : Int => InU r) h261 (absU_InU ((tr (P := fun r : Int => InI r) h15 (clip_I p.2.2)).out))).out) ((tr (P := fun r : Int => InU r) h31 (rootU_U (wr_u64 h29) (show InU 0 from by unfold InU; omega))).out) (by subst_vars; first | exact tow_lt p _ (.inl rfl) (by assumption) | exact tow_lt p _ (.inr (.inl rfl)) (by assumption) | exact tow_lt p _ (.inr (.inr rfl)) (by assumption)) w262) (by kernel_rfl) (fun r264 h265 w266 hM267 => S_val (.tuple #[.int .u64 r264.1, .int .u64 r264.2]) (by kernel_rfl) (S_val (.int .u64 r264.1) (by kernel_rfl) (S_val (.int .u64 r264.2) (by kernel_rfl) (S_val (.int .u64 r264.1) (by kernel_rfl) (S_val (.int .u64 r264.2) (by kernel_rfl) (S_nil (R_seq (R_seq (R_region (?_))))))))))))
          have HR := hr_lt HR h265
          refine S_val (.slice (some ⟨g37, 0, none⟩) 3 3) (by kernel_rfl) (S_val (.int .i64 2) (by kernel_rfl) (S_val (.pointer (some ⟨g37, 2, none⟩)) (by kernel_rfl) (S_load 3 2 (.int .i64 r14) hM267 (by kernel_rfl) (?_))))
          refine S_dec (r14 < 0) (by kernel_rfl) (fun c268 => ?_) (fun c268 => ?_)
          · refine S_val (.bool true) (by kernel_rfl) (S_val (.int .u64 r264.2) (by kernel_rfl) (?_))
            have HR := hr_pos HR c268
            refine S_dec (r264.2 > 0) (by kernel_rfl) (fun c269 => ?_) (fun c269 => ?_)
            · refine S_val (.bool true) (by kernel_rfl) (S_nil (R_yes (by kernel_rfl) (R_region (S_val (.int .u64 r264.1) (by kernel_rfl) (S_int (IntKind.u64.wrap (r264.1 + 1)) .u64 (by kernel_rfl) (fun x270 h271 => S_val (.int .u64 x270) (by kernel_rfl) (S_nil (R_region (S_val (.slice (some ⟨g254, 0, none⟩) 2 cap255) (by kernel_rfl) (S_val (.int .u64 x270) (by kernel_rfl) (S_val (.slice (some ⟨g37, 0, none⟩) 3 3) (by kernel_rfl) (?_))))))))))))
              have HR := hr_pos HR c269
              have HR := hr_lt HR h271
              refine S_val (.int .i64 2) (by kernel_rfl) (S_val (.pointer (some ⟨g37, 2, none⟩)) (by kernel_rfl) (S_load 3 2 (.int .i64 r14) hM267 (by kernel_rfl) (S_val (.bool true) (kdT' c268 (by kernel_rfl)) (S_call (nearV x270 true false) (fun r : Int => .int .i64 r) hM267 (c_Near x270 true false (wr_u64 h271) w266) (by kernel_rfl) (fun r272 h273 w274 hM275 => S_fresh (some 1) #[.int .i64 r272] 24 hM275 (by kernel_rfl) (fun g276 w277 hM278 => S_appN 1 0 2 cap255 1 1 24 1 8 (.int .i64 0) [.int .i64 r52, .int .i64 r247] rest256 [.int .i64 r272] hM278 ok258 (by kernel_rfl) (by kernel_rfl) (by omega) (fun g279 cap280 rest281 w282 ok283 hM284 => S_val (.slice (some ⟨g279, 0, none⟩) 3 cap280) (by kernel_rfl) (S_nil (R_inBlock (R_region (S_val (.int .i64 2) (by kernel_rfl) (?_))))))))))))
              have HR := hr_lt HR h273
              refine S_val (.int .i64 3) (by kernel_rfl) (S_val (.int .i64 3) (by kernel_rfl) (S_nil (R_inLoop (R_seq (R_seq (R_region (S_val (.int .i64 3) (by kernel_rfl) (S_val (.bool false) (by kernel_rfl) (S_nil (R_no (by kernel_rfl) (R_exit rfl (?_))))))))))))
              refine R_seq (R_drawF 10 (by kernel_rfl) (fun F285 U286 hL287 => F_val (.slice (some ⟨g279, 0, none⟩) 3 cap280) (fun _ => by kernel_rfl) (F_val (.pointer (some ⟨g279, 0, none⟩)) (fun _ => by kernel_rfl) (F_load 0 0 (.int .i64 r52) hM284 (by kernel_rfl) (F_val (.slice (some ⟨g279, 0, none⟩) 3 cap280) (fun _ => by kernel_rfl) (F_val (.pointer (some ⟨g279, 1, none⟩)) (fun _ => by kernel_rfl) (F_load 0 1 (.int .i64 r247) hM284 (by kernel_rfl) (F_val (.slice (some ⟨g279, 0, none⟩) 3 cap280) (fun _ => by kernel_rfl) (F_val (.pointer (some ⟨g279, 2, none⟩)) (fun _ => by kernel_rfl) (F_load 0 2 (.int .i64 r272) hM284 (by kernel_rfl) (F_val (.agg #[.int .i64 r52, .int .i64 r247, .int .i64 r272]) (fun _ => by kernel_rfl) (?_))))))))))))
              refine F_nil hM284 hL287 (fun w288 hM289 => S_store 5 0 #[.int .i64 r52, .int .i64 r247, .int .i64 r272] hM289 (by kernel_rfl) (fun w290 hM291 => S_nil (?_)))
              refine R_ret hM291 rfl (.cons (.cell _ _ 5 0 (.agg #[.int .i64 r52, .int .i64 r247, .int .i64 r272]) (by kernel_rfl)) .nil) rfl ?_
              exact ⟨congrArg Ending.returned HR, hM291.below⟩
            · refine S_val (.bool false) (by kernel_rfl) (S_nil (R_no (by kernel_rfl) (R_skip (R_region (S_val (.slice (some ⟨g254, 0, none⟩) 2 cap255) (by kernel_rfl) (S_val (.int .u64 r264.1) (by kernel_rfl) (S_val (.slice (some ⟨g37, 0, none⟩) 3 3) (by kernel_rfl) (S_val (.int .i64 2) (by kernel_rfl) (S_val (.pointer (some ⟨g37, 2, none⟩)) (by kernel_rfl) (S_load 3 2 (.int .i64 r14) hM267 (by kernel_rfl) (S_val (.bool true) (kdT' c268 (by kernel_rfl)) (?_))))))))))))
              have HR := hr_neg HR c269
              refine S_call (nearV r264.1 true false) (fun r : Int => .int .i64 r) hM267 (c_Near r264.1 true false ((tr (P := fun r : Int × Int => (InU r.1 ∧ InU r.2)) h265 (dvq_U ((tr (P := fun r : Int => InU r) h261 (absU_InU ((tr (P := fun r : Int => InI r) h15 (clip_I p.2.2)).out))).out) ((tr (P := fun r : Int => InU r) h31 (rootU_U (wr_u64 h29) (show InU 0 from by unfold InU; omega))).out) (by subst_vars; first | exact tow_lt p _ (.inl rfl) (by assumption) | exact tow_lt p _ (.inr (.inl rfl)) (by assumption) | exact tow_lt p _ (.inr (.inr rfl)) (by assumption)))).out.1) w266) (by kernel_rfl) (fun r292 h293 w294 hM295 => S_fresh (some 1) #[.int .i64 r292] 24 hM295 (by kernel_rfl) (fun g296 w297 hM298 => S_appN 1 0 2 cap255 1 1 24 1 8 (.int .i64 0) [.int .i64 r52, .int .i64 r247] rest256 [.int .i64 r292] hM298 ok258 (by kernel_rfl) (by kernel_rfl) (by omega) (fun g299 cap300 rest301 w302 ok303 hM304 => S_val (.slice (some ⟨g299, 0, none⟩) 3 cap300) (by kernel_rfl) (S_nil (R_inBlock (R_region (S_val (.int .i64 2) (by kernel_rfl) (S_val (.int .i64 3) (by kernel_rfl) (S_val (.int .i64 3) (by kernel_rfl) (S_nil (R_inLoop (?_))))))))))))
              have HR := hr_lt HR h293
              refine R_seq (R_seq (R_region (S_val (.int .i64 3) (by kernel_rfl) (S_val (.bool false) (by kernel_rfl) (S_nil (R_no (by kernel_rfl) (R_exit rfl (R_seq (R_drawF 10 (by kernel_rfl) (fun F305 U306 hL307 => F_val (.slice (some ⟨g299, 0, none⟩) 3 cap300) (fun _ => by kernel_rfl) (F_val (.pointer (some ⟨g299, 0, none⟩)) (fun _ => by kernel_rfl) (?_))))))))))))
              refine F_load 0 0 (.int .i64 r52) hM304 (by kernel_rfl) (F_val (.slice (some ⟨g299, 0, none⟩) 3 cap300) (fun _ => by kernel_rfl) (F_val (.pointer (some ⟨g299, 1, none⟩)) (fun _ => by kernel_rfl) (F_load 0 1 (.int .i64 r247) hM304 (by kernel_rfl) (F_val (.slice (some ⟨g299, 0, none⟩) 3 cap300) (fun _ => by kernel_rfl) (F_val (.pointer (some ⟨g299, 2, none⟩)) (fun _ => by kernel_rfl) (F_load 0 2 (.int .i64 r292) hM304 (by kernel_rfl) (F_val (.agg #[.int .i64 r52, .int .i64 r247, .int .i64 r292]) (fun _ => by kernel_rfl) (F_nil hM304 hL307 (fun w308 hM309 => S_store 5 0 #[.int .i64 r52, .int .i64 r247, .int .i64 r292] hM309 (by kernel_rfl) (fun w310 hM311 => S_nil (?_)))))))))))
              refine R_ret hM311 rfl (.cons (.cell _ _ 5 0 (.agg #[.int .i64 r52, .int .i64 r247, .int .i64 r292]) (by kernel_rfl)) .nil) rfl ?_
              exact ⟨congrArg Ending.returned HR, hM311.below⟩
          · refine S_val (.bool false) (by kernel_rfl) (S_skip (by kernel_rfl) (S_skip (by kernel_rfl) (S_val (.bool false) (by kernel_rfl) (S_nil (R_no (by kernel_rfl) (R_skip (R_region (S_val (.slice (some ⟨g254, 0, none⟩) 2 cap255) (by kernel_rfl) (S_val (.int .u64 r264.1) (by kernel_rfl) (S_val (.slice (some ⟨g37, 0, none⟩) 3 3) (by kernel_rfl) (S_val (.int .i64 2) (by kernel_rfl) (?_))))))))))))
            have HR := hr_neg HR c268
            refine S_val (.pointer (some ⟨g37, 2, none⟩)) (by kernel_rfl) (S_load 3 2 (.int .i64 r14) hM267 (by kernel_rfl) (S_val (.bool false) (kdF' c268 (by kernel_rfl)) (S_call (nearV r264.1 false false) (fun r : Int => .int .i64 r) hM267 (c_Near r264.1 false false ((tr (P := fun r : Int × Int => (InU r.1 ∧ InU r.2)) h265 (dvq_U ((tr (P := fun r : Int => InU r) h261 (absU_InU ((tr (P := fun r : Int => InI r) h15 (clip_I p.2.2)).out))).out) ((tr (P := fun r : Int => InU r) h31 (rootU_U (wr_u64 h29) (show InU 0 from by unfold InU; omega))).out) (by subst_vars; first | exact tow_lt p _ (.inl rfl) (by assumption) | exact tow_lt p _ (.inr (.inl rfl)) (by assumption) | exact tow_lt p _ (.inr (.inr rfl)) (by assumption)))).out.1) w266) (by kernel_rfl) (fun r312 h313 w314 hM315 => S_fresh (some 1) #[.int .i64 r312] 24 hM315 (by kernel_rfl) (fun g316 w317 hM318 => S_appN 1 0 2 cap255 1 1 24 1 8 (.int .i64 0) [.int .i64 r52, .int .i64 r247] rest256 [.int .i64 r312] hM318 ok258 (by kernel_rfl) (by kernel_rfl) (by omega) (fun g319 cap320 rest321 w322 ok323 hM324 => S_val (.slice (some ⟨g319, 0, none⟩) 3 cap320) (by kernel_rfl) (S_nil (R_inBlock (R_region (S_val (.int .i64 2) (by kernel_rfl) (S_val (.int .i64 3) (by kernel_rfl) (?_))))))))))))
            have HR := hr_lt HR h313
            refine S_val (.int .i64 3) (by kernel_rfl) (S_nil (R_inLoop (R_seq (R_seq (R_region (S_val (.int .i64 3) (by kernel_rfl) (S_val (.bool false) (by kernel_rfl) (S_nil (R_no (by kernel_rfl) (R_exit rfl (R_seq (?_))))))))))))
            refine R_drawF 10 (by kernel_rfl) (fun F325 U326 hL327 => F_val (.slice (some ⟨g319, 0, none⟩) 3 cap320) (fun _ => by kernel_rfl) (F_val (.pointer (some ⟨g319, 0, none⟩)) (fun _ => by kernel_rfl) (F_load 0 0 (.int .i64 r52) hM324 (by kernel_rfl) (F_val (.slice (some ⟨g319, 0, none⟩) 3 cap320) (fun _ => by kernel_rfl) (F_val (.pointer (some ⟨g319, 1, none⟩)) (fun _ => by kernel_rfl) (F_load 0 1 (.int .i64 r247) hM324 (by kernel_rfl) (F_val (.slice (some ⟨g319, 0, none⟩) 3 cap320) (fun _ => by kernel_rfl) (F_val (.pointer (some ⟨g319, 2, none⟩)) (fun _ => by kernel_rfl) (F_load 0 2 (.int .i64 r312) hM324 (by kernel_rfl) (F_val (.agg #[.int .i64 r52, .int .i64 r247, .int .i64 r312]) (fun _ => by kernel_rfl) (F_nil hM324 hL327 (fun w328 hM329 => ?_))))))))))))
            refine S_store 5 0 #[.int .i64 r52, .int .i64 r247, .int .i64 r312] hM329 (by kernel_rfl) (fun w330 hM331 => S_nil (?_))
            refine R_ret hM331 rfl (.cons (.cell _ _ 5 0 (.agg #[.int .i64 r52, .int .i64 r247, .int .i64 r312]) (by kernel_rfl)) .nil) rfl ?_
            exact ⟨congrArg Ending.returned HR, hM331.below⟩
      · refine S_val (.bool false) (by kernel_rfl) (S_nil (R_no (by kernel_rfl) (R_skip (R_region (S_val (.slice none 0 0) (by kernel_rfl) (S_val (.int .u64 r44.1) (by kernel_rfl) (S_val (.slice (some ⟨g37, 0, none⟩) 3 3) (by kernel_rfl) (S_val (.int .i64 0) (by kernel_rfl) (S_val (.pointer (some ⟨g37, 0, none⟩)) (by kernel_rfl) (S_load 0 0 (.int .i64 r10) hM47 (by kernel_rfl) (S_val (.bool true) (kdT' c48 (by kernel_rfl)) (?_))))))))))))
        have HR := hr_neg HR c49
        refine S_call (nearV r44.1 true false) (fun r : Int => .int .i64 r) hM47 (c_Near r44.1 true false ((tr (P := fun r : Int × Int => (InU r.1 ∧ InU r.2)) h45 (dvq_U ((tr (P := fun r : Int => InU r) h41 (absU_InU ((tr (P := fun r : Int => InI r) h11 (clip_I p.1)).out))).out) ((tr (P := fun r : Int => InU r) h31 (rootU_U (wr_u64 h29) (show InU 0 from by unfold InU; omega))).out) (by subst_vars; first | exact tow_lt p _ (.inl rfl) (by assumption) | exact tow_lt p _ (.inr (.inl rfl)) (by assumption) | exact tow_lt p _ (.inr (.inr rfl)) (by assumption)))).out.1) w46) (by kernel_rfl) (fun r332 h333 w334 hM335 => S_fresh (some 1) #[.int .i64 r332] 24 hM335 (by kernel_rfl) (fun g336 w337 hM338 => S_app0 0 1 1 24 1 8 (.int .i64 0) [.int .i64 r332] hM338 (by kernel_rfl) (by kernel_rfl) (fun g339 cap340 rest341 w342 ok343 hM344 => S_val (.slice (some ⟨g339, 0, none⟩) 1 cap340) (by kernel_rfl) (S_nil (R_inBlock (R_region (S_val (.int .i64 0) (by kernel_rfl) (S_val (.int .i64 1) (by kernel_rfl) (S_val (.int .i64 1) (by kernel_rfl) (S_nil (R_inLoop (?_))))))))))))
        have HR := hr_lt HR h333
        refine R_seq (R_seq (R_region (S_val (.int .i64 1) (by kernel_rfl) (S_val (.bool true) (by kernel_rfl) (S_nil (R_yes (by kernel_rfl) (R_skip (R_seq (R_block (R_seq (R_region (?_))))))))))))
        refine S_val (.slice (some ⟨g37, 0, none⟩) 3 3) (by kernel_rfl) (S_val (.int .i64 1) (by kernel_rfl) (S_val (.pointer (some ⟨g37, 1, none⟩)) (by kernel_rfl) (S_load 2 1 (.int .i64 r12) hM344 (by kernel_rfl) (S_call (absU r12) (fun r : Int => .int .u64 r) hM344 (c_umbraref02_Size r12 ((tr (P := fun r : Int => InI r) h13 (clip_I p.2.1)).out) w342) (by kernel_rfl) (fun r345 h346 w347 hM348 => S_val (.int .u64 r345) (by kernel_rfl) (S_nil (R_seq (R_region (S_val (.int .u64 r345) (by kernel_rfl) (S_val (.int .u64 r30) (by kernel_rfl) (S_call (dvq r345 r30) (fun r : Int × Int => .tuple #[.int .u64 r.1, .int .u64 r.2]) hM348 (c_Div64 r345 r30 ((tr (P := fun r : Int => InU r) h346 (absU_InU ((tr (P := fun r : Int => InI r) h13 (clip_I p.2.1)).out))).out) ((tr (P := fun r : Int => InU r) h31 (rootU_U (wr_u64 h29) (show InU 0 from by unfold InU; omega))).out) (by subst_vars; first | exact tow_lt p _ (.inl rfl) (by assumption) | exact tow_lt p _ (.inr (.inl rfl)) (by assumption) | exact tow_lt p _ (.inr (.inr rfl)) (by assumption)) w347) (by kernel_rfl) (fun r349 h350 w351 hM352 => ?_))))))))))))
        have HR := hr_lt HR h346
        have HR := hr_lt HR h350
        refine S_val (.tuple #[.int .u64 r349.1, .int .u64 r349.2]) (by kernel_rfl) (S_val (.int .u64 r349.1) (by kernel_rfl) (S_val (.int .u64 r349.2) (by kernel_rfl) (S_val (.int .u64 r349.1) (by kernel_rfl) (S_val (.int .u64 r349.2) (by kernel_rfl) (S_nil (R_seq (R_seq (R_region (S_val (.slice (some ⟨g37, 0, none⟩) 3 3) (by kernel_rfl) (S_val (.int .i64 1) (by kernel_rfl) (S_val (.pointer (some ⟨g37, 1, none⟩)) (by kernel_rfl) (?_))))))))))))
        refine S_load 2 1 (.int .i64 r12) hM352 (by kernel_rfl) (?_)
        refine S_dec (r12 < 0) (by kernel_rfl) (fun c353 => ?_) (fun c353 => ?_)
        · refine S_val (.bool true) (by kernel_rfl) (S_val (.int .u64 r349.2) (by kernel_rfl) (?_))
          have HR := hr_pos HR c353
          refine S_dec (r349.2 > 0) (by kernel_rfl) (fun c354 => ?_) (fun c354 => ?_)
          · refine S_val (.bool true) (by kernel_rfl) (S_nil (R_yes (by kernel_rfl) (R_region (S_val (.int .u64 r349.1) (by kernel_rfl) (S_int (IntKind.u64.wrap (r349.1 + 1)) .u64 (by kernel_rfl) (fun x355 h356 => S_val (.int .u64 x355) (by kernel_rfl) (S_nil (R_region (S_val (.slice (some ⟨g339, 0, none⟩) 1 cap340) (by kernel_rfl) (S_val (.int .u64 x355) (by kernel_rfl) (S_val (.slice (some ⟨g37, 0, none⟩) 3 3) (by kernel_rfl) (?_))))))))))))
            have HR := hr_pos HR c354
            have HR := hr_lt HR h356
            refine S_val (.int .i64 1) (by kernel_rfl) (S_val (.pointer (some ⟨g37, 1, none⟩)) (by kernel_rfl) (S_load 2 1 (.int .i64 r12) hM352 (by kernel_rfl) (S_val (.bool true) (kdT' c353 (by kernel_rfl)) (S_call (nearV x355 true false) (fun r : Int => .int .i64 r) hM352 (c_Near x355 true false (wr_u64 h356) w351) (by kernel_rfl) (fun r357 h358 w359 hM360 => S_fresh (some 1) #[.int .i64 r357] 24 hM360 (by kernel_rfl) (fun g361 w362 hM363 => S_appN 1 0 1 cap340 1 1 24 1 8 (.int .i64 0) [.int .i64 r332] rest341 [.int .i64 r357] hM363 ok343 (by kernel_rfl) (by kernel_rfl) (by omega) (fun g364 cap365 rest366 w367 ok368 hM369 => S_val (.slice (some ⟨g364, 0, none⟩) 2 cap365) (by kernel_rfl) (S_nil (R_inBlock (R_region (S_val (.int .i64 1) (by kernel_rfl) (?_))))))))))))
            have HR := hr_lt HR h358
            refine S_val (.int .i64 2) (by kernel_rfl) (S_val (.int .i64 2) (by kernel_rfl) (S_nil (R_inLoop (R_seq (R_seq (R_region (S_val (.int .i64 2) (by kernel_rfl) (S_val (.bool true) (by kernel_rfl) (S_nil (R_yes (by kernel_rfl) (R_skip (?_))))))))))))
            refine R_seq (R_block (R_seq (R_region (S_val (.slice (some ⟨g37, 0, none⟩) 3 3) (by kernel_rfl) (S_val (.int .i64 2) (by kernel_rfl) (S_val (.pointer (some ⟨g37, 2, none⟩)) (by kernel_rfl) (S_load 3 2 (.int .i64 r14) hM369 (by kernel_rfl) (S_call (absU r14) (fun r : Int => .int .u64 r) hM369 (c_umbraref02_Size r14 ((tr (P := fun r : Int => InI r) h15 (clip_I p.2.2)).out) w367) (by kernel_rfl) (fun r370 h371 w372 hM373 => S_val (.int .u64 r370) (by kernel_rfl) (S_nil (R_seq (?_))))))))))))
            have HR := hr_lt HR h371
            refine R_region (S_val (.int .u64 r370) (by kernel_rfl) (S_val (.int .u64 r30) (by kernel_rfl) (S_call (dvq r370 r30) (fun r : Int × Int => .tuple #[.int .u64 r.1, .int .u64 r.2]) hM373 (c_Div64 r370 r30 ((tr (P := fun r : Int => InU r) h371 (absU_InU ((tr (P := fun r : Int => InI r) h15 (clip_I p.2.2)).out))).out) ((tr (P := fun r : Int => InU r) h31 (rootU_U (wr_u64 h29) (show InU 0 from by unfold InU; omega))).out) (by subst_vars; first | exact tow_lt p _ (.inl rfl) (by assumption) | exact tow_lt p _ (.inr (.inl rfl)) (by assumption) | exact tow_lt p _ (.inr (.inr rfl)) (by assumption)) w372) (by kernel_rfl) (fun r374 h375 w376 hM377 => S_val (.tuple #[.int .u64 r374.1, .int .u64 r374.2]) (by kernel_rfl) (S_val (.int .u64 r374.1) (by kernel_rfl) (S_val (.int .u64 r374.2) (by kernel_rfl) (S_val (.int .u64 r374.1) (by kernel_rfl) (S_val (.int .u64 r374.2) (by kernel_rfl) (S_nil (R_seq (R_seq (?_))))))))))))
            have HR := hr_lt HR h375
            refine R_region (S_val (.slice (some ⟨g37, 0, none⟩) 3 3) (by kernel_rfl) (S_val (.int .i64 2) (by kernel_rfl) (S_val (.pointer (some ⟨g37, 2, none⟩)) (by kernel_rfl) (S_load 3 2 (.int .i64 r14) hM377 (by kernel_rfl) (?_)))))
            refine S_dec (r14 < 0) (by kernel_rfl) (fun c378 => ?_) (fun c378 => ?_)
            · refine S_val (.bool true) (by kernel_rfl) (S_val (.int .u64 r374.2) (by kernel_rfl) (?_))
              have HR := hr_pos HR c378
              refine S_dec (r374.2 > 0) (by kernel_rfl) (fun c379 => ?_) (fun c379 => ?_)
              · refine S_val (.bool true) (by kernel_rfl) (S_nil (R_yes (by kernel_rfl) (R_region (S_val (.int .u64 r374.1) (by kernel_rfl) (S_int (IntKind.u64.wrap (r374.1 + 1)) .u64 (by kernel_rfl) (fun x380 h381 => S_val (.int .u64 x380) (by kernel_rfl) (S_nil (R_region (S_val (.slice (some ⟨g364, 0, none⟩) 2 cap365) (by kernel_rfl) (S_val (.int .u64 x380) (by kernel_rfl) (S_val (.slice (some ⟨g37, 0, none⟩) 3 3) (by kernel_rfl) (?_))))))))))))
                have HR := hr_pos HR c379
                have HR := hr_lt HR h381
                refine S_val (.int .i64 2) (by kernel_rfl) (S_val (.pointer (some ⟨g37, 2, none⟩)) (by kernel_rfl) (S_load 3 2 (.int .i64 r14) hM377 (by kernel_rfl) (S_val (.bool true) (kdT' c378 (by kernel_rfl)) (S_call (nearV x380 true false) (fun r : Int => .int .i64 r) hM377 (c_Near x380 true false (wr_u64 h381) w376) (by kernel_rfl) (fun r382 h383 w384 hM385 => S_fresh (some 1) #[.int .i64 r382] 24 hM385 (by kernel_rfl) (fun g386 w387 hM388 => S_appN 1 0 2 cap365 1 1 24 1 8 (.int .i64 0) [.int .i64 r332, .int .i64 r357] rest366 [.int .i64 r382] hM388 ok368 (by kernel_rfl) (by kernel_rfl) (by omega) (fun g389 cap390 rest391 w392 ok393 hM394 => S_val (.slice (some ⟨g389, 0, none⟩) 3 cap390) (by kernel_rfl) (S_nil (R_inBlock (R_region (S_val (.int .i64 2) (by kernel_rfl) (?_))))))))))))
                have HR := hr_lt HR h383
                refine S_val (.int .i64 3) (by kernel_rfl) (S_val (.int .i64 3) (by kernel_rfl) (S_nil (R_inLoop (R_seq (R_seq (R_region (S_val (.int .i64 3) (by kernel_rfl) (S_val (.bool false) (by kernel_rfl) (S_nil (R_no (by kernel_rfl) (R_exit rfl (?_))))))))))))
                refine R_seq (R_drawF 10 (by kernel_rfl) (fun F395 U396 hL397 => F_val (.slice (some ⟨g389, 0, none⟩) 3 cap390) (fun _ => by kernel_rfl) (F_val (.pointer (some ⟨g389, 0, none⟩)) (fun _ => by kernel_rfl) (F_load 0 0 (.int .i64 r332) hM394 (by kernel_rfl) (F_val (.slice (some ⟨g389, 0, none⟩) 3 cap390) (fun _ => by kernel_rfl) (F_val (.pointer (some ⟨g389, 1, none⟩)) (fun _ => by kernel_rfl) (F_load 0 1 (.int .i64 r357) hM394 (by kernel_rfl) (F_val (.slice (some ⟨g389, 0, none⟩) 3 cap390) (fun _ => by kernel_rfl) (F_val (.pointer (some ⟨g389, 2, none⟩)) (fun _ => by kernel_rfl) (F_load 0 2 (.int .i64 r382) hM394 (by kernel_rfl) (F_val (.agg #[.int .i64 r332, .int .i64 r357, .int .i64 r382]) (fun _ => by kernel_rfl) (?_))))))))))))
                refine F_nil hM394 hL397 (fun w398 hM399 => S_store 5 0 #[.int .i64 r332, .int .i64 r357, .int .i64 r382] hM399 (by kernel_rfl) (fun w400 hM401 => S_nil (?_)))
                refine R_ret hM401 rfl (.cons (.cell _ _ 5 0 (.agg #[.int .i64 r332, .int .i64 r357, .int .i64 r382]) (by kernel_rfl)) .nil) rfl ?_
                exact ⟨congrArg Ending.returned HR, hM401.below⟩
              · refine S_val (.bool false) (by kernel_rfl) (S_nil (R_no (by kernel_rfl) (R_skip (R_region (S_val (.slice (some ⟨g364, 0, none⟩) 2 cap365) (by kernel_rfl) (S_val (.int .u64 r374.1) (by kernel_rfl) (S_val (.slice (some ⟨g37, 0, none⟩) 3 3) (by kernel_rfl) (S_val (.int .i64 2) (by kernel_rfl) (S_val (.pointer (some ⟨g37, 2, none⟩)) (by kernel_rfl) (S_load 3 2 (.int .i64 r14) hM377 (by kernel_rfl) (S_val (.bool true) (kdT' c378 (by kernel_rfl)) (?_))))))))))))
                have HR := hr_neg HR c379
                refine S_call (nearV r374.1 true false) (fun r : Int => .int .i64 r) hM377 (c_Near r374.1 true false ((tr (P := fun r : Int × Int => (InU r.1 ∧ InU r.2)) h375 (dvq_U ((tr (P := fun r : Int => InU r) h371 (absU_InU ((tr (P := fun r : Int => InI r) h15 (clip_I p.2.2)).out))).out) ((tr (P := fun r : Int => InU r) h31 (rootU_U (wr_u64 h29) (show InU 0 from by unfold InU; omega))).out) (by subst_vars; first | exact tow_lt p _ (.inl rfl) (by assumption) | exact tow_lt p _ (.inr (.inl rfl)) (by assumption) | exact tow_lt p _ (.inr (.inr rfl)) (by assumption)))).out.1) w376) (by kernel_rfl) (fun r402 h403 w404 hM405 => S_fresh (some 1) #[.int .i64 r402] 24 hM405 (by kernel_rfl) (fun g406 w407 hM408 => S_appN 1 0 2 cap365 1 1 24 1 8 (.int .i64 0) [.int .i64 r332, .int .i64 r357] rest366 [.int .i64 r402] hM408 ok368 (by kernel_rfl) (by kernel_rfl) (by omega) (fun g409 cap410 rest411 w412 ok413 hM414 => S_val (.slice (some ⟨g409, 0, none⟩) 3 cap410) (by kernel_rfl) (S_nil (R_inBlock (R_region (S_val (.int .i64 2) (by kernel_rfl) (S_val (.int .i64 3) (by kernel_rfl) (S_val (.int .i64 3) (by kernel_rfl) (S_nil (R_inLoop (?_))))))))))))
                have HR := hr_lt HR h403
                refine R_seq (R_seq (R_region (S_val (.int .i64 3) (by kernel_rfl) (S_val (.bool false) (by kernel_rfl) (S_nil (R_no (by kernel_rfl) (R_exit rfl (R_seq (R_drawF 10 (by kernel_rfl) (fun F415 U416 hL417 => F_val (.slice (some ⟨g409, 0, none⟩) 3 cap410) (fun _ => by kernel_rfl) (F_val (.pointer (some ⟨g409, 0, none⟩)) (fun _ => by kernel_rfl) (?_))))))))))))
                refine F_load 0 0 (.int .i64 r332) hM414 (by kernel_rfl) (F_val (.slice (some ⟨g409, 0, none⟩) 3 cap410) (fun _ => by kernel_rfl) (F_val (.pointer (some ⟨g409, 1, none⟩)) (fun _ => by kernel_rfl) (F_load 0 1 (.int .i64 r357) hM414 (by kernel_rfl) (F_val (.slice (some ⟨g409, 0, none⟩) 3 cap410) (fun _ => by kernel_rfl) (F_val (.pointer (some ⟨g409, 2, none⟩)) (fun _ => by kernel_rfl) (F_load 0 2 (.int .i64 r402) hM414 (by kernel_rfl) (F_val (.agg #[.int .i64 r332, .int .i64 r357, .int .i64 r402]) (fun _ => by kernel_rfl) (F_nil hM414 hL417 (fun w418 hM419 => S_store 5 0 #[.int .i64 r332, .int .i64 r357, .int .i64 r402] hM419 (by kernel_rfl) (fun w420 hM421 => S_nil (?_)))))))))))
                refine R_ret hM421 rfl (.cons (.cell _ _ 5 0 (.agg #[.int .i64 r332, .int .i64 r357, .int .i64 r402]) (by kernel_rfl)) .nil) rfl ?_
                exact ⟨congrArg Ending.returned HR, hM421.below⟩
            · refine S_val (.bool false) (by kernel_rfl) (S_skip (by kernel_rfl) (S_skip (by kernel_rfl) (S_val (.bool false) (by kernel_rfl) (S_nil (R_no (by kernel_rfl) (R_skip (R_region (S_val (.slice (some ⟨g364, 0, none⟩) 2 cap365) (by kernel_rfl) (S_val (.int .u64 r374.1) (by kernel_rfl) (S_val (.slice (some ⟨g37, 0, none⟩) 3 3) (by kernel_rfl) (S_val (.int .i64 2) (by kernel_rfl) (?_))))))))))))
              have HR := hr_neg HR c378
              refine S_val (.pointer (some ⟨g37, 2, none⟩)) (by kernel_rfl) (S_load 3 2 (.int .i64 r14) hM377 (by kernel_rfl) (S_val (.bool false) (kdF' c378 (by kernel_rfl)) (S_call (nearV r374.1 false false) (fun r : Int => .int .i64 r) hM377 (c_Near r374.1 false false ((tr (P := fun r : Int × Int => (InU r.1 ∧ InU r.2)) h375 (dvq_U ((tr (P := fun r : Int => InU r) h371 (absU_InU ((tr (P := fun r : Int => InI r) h15 (clip_I p.2.2)).out))).out) ((tr (P := fun r : Int => InU r) h31 (rootU_U (wr_u64 h29) (show InU 0 from by unfold InU; omega))).out) (by subst_vars; first | exact tow_lt p _ (.inl rfl) (by assumption) | exact tow_lt p _ (.inr (.inl rfl)) (by assumption) | exact tow_lt p _ (.inr (.inr rfl)) (by assumption)))).out.1) w376) (by kernel_rfl) (fun r422 h423 w424 hM425 => S_fresh (some 1) #[.int .i64 r422] 24 hM425 (by kernel_rfl) (fun g426 w427 hM428 => S_appN 1 0 2 cap365 1 1 24 1 8 (.int .i64 0) [.int .i64 r332, .int .i64 r357] rest366 [.int .i64 r422] hM428 ok368 (by kernel_rfl) (by kernel_rfl) (by omega) (fun g429 cap430 rest431 w432 ok433 hM434 => S_val (.slice (some ⟨g429, 0, none⟩) 3 cap430) (by kernel_rfl) (S_nil (R_inBlock (R_region (S_val (.int .i64 2) (by kernel_rfl) (S_val (.int .i64 3) (by kernel_rfl) (?_))))))))))))
              have HR := hr_lt HR h423
              refine S_val (.int .i64 3) (by kernel_rfl) (S_nil (R_inLoop (R_seq (R_seq (R_region (S_val (.int .i64 3) (by kernel_rfl) (S_val (.bool false) (by kernel_rfl) (S_nil (R_no (by kernel_rfl) (R_exit rfl (R_seq (?_))))))))))))
              refine R_drawF 10 (by kernel_rfl) (fun F435 U436 hL437 => F_val (.slice (some ⟨g429, 0, none⟩) 3 cap430) (fun _ => by kernel_rfl) (F_val (.pointer (some ⟨g429, 0, none⟩)) (fun _ => by kernel_rfl) (F_load 0 0 (.int .i64 r332) hM434 (by kernel_rfl) (F_val (.slice (some ⟨g429, 0, none⟩) 3 cap430) (fun _ => by kernel_rfl) (F_val (.pointer (some ⟨g429, 1, none⟩)) (fun _ => by kernel_rfl) (F_load 0 1 (.int .i64 r357) hM434 (by kernel_rfl) (F_val (.slice (some ⟨g429, 0, none⟩) 3 cap430) (fun _ => by kernel_rfl) (F_val (.pointer (some ⟨g429, 2, none⟩)) (fun _ => by kernel_rfl) (F_load 0 2 (.int .i64 r422) hM434 (by kernel_rfl) (F_val (.agg #[.int .i64 r332, .int .i64 r357, .int .i64 r422]) (fun _ => by kernel_rfl) (F_nil hM434 hL437 (fun w438 hM439 => ?_))))))))))))
              refine S_store 5 0 #[.int .i64 r332, .int .i64 r357, .int .i64 r422] hM439 (by kernel_rfl) (fun w440 hM441 => S_nil (?_))
              refine R_ret hM441 rfl (.cons (.cell _ _ 5 0 (.agg #[.int .i64 r332, .int .i64 r357, .int .i64 r422]) (by kernel_rfl)) .nil) rfl ?_
              exact ⟨congrArg Ending.returned HR, hM441.below⟩
          · refine S_val (.bool false) (by kernel_rfl) (S_nil (R_no (by kernel_rfl) (R_skip (R_region (S_val (.slice (some ⟨g339, 0, none⟩) 1 cap340) (by kernel_rfl) (S_val (.int .u64 r349.1) (by kernel_rfl) (S_val (.slice (some ⟨g37, 0, none⟩) 3 3) (by kernel_rfl) (S_val (.int .i64 1) (by kernel_rfl) (S_val (.pointer (some ⟨g37, 1, none⟩)) (by kernel_rfl) (S_load 2 1 (.int .i64 r12) hM352 (by kernel_rfl) (S_val (.bool true) (kdT' c353 (by kernel_rfl)) (?_))))))))))))
            have HR := hr_neg HR c354
            refine S_call (nearV r349.1 true false) (fun r : Int => .int .i64 r) hM352 (c_Near r349.1 true false ((tr (P := fun r : Int × Int => (InU r.1 ∧ InU r.2)) h350 (dvq_U ((tr (P := fun r : Int => InU r) h346 (absU_InU ((tr (P := fun r : Int => InI r) h13 (clip_I p.2.1)).out))).out) ((tr (P := fun r : Int => InU r) h31 (rootU_U (wr_u64 h29) (show InU 0 from by unfold InU; omega))).out) (by subst_vars; first | exact tow_lt p _ (.inl rfl) (by assumption) | exact tow_lt p _ (.inr (.inl rfl)) (by assumption) | exact tow_lt p _ (.inr (.inr rfl)) (by assumption)))).out.1) w351) (by kernel_rfl) (fun r442 h443 w444 hM445 => S_fresh (some 1) #[.int .i64 r442] 24 hM445 (by kernel_rfl) (fun g446 w447 hM448 => S_appN 1 0 1 cap340 1 1 24 1 8 (.int .i64 0) [.int .i64 r332] rest341 [.int .i64 r442] hM448 ok343 (by kernel_rfl) (by kernel_rfl) (by omega) (fun g449 cap450 rest451 w452 ok453 hM454 => S_val (.slice (some ⟨g449, 0, none⟩) 2 cap450) (by kernel_rfl) (S_nil (R_inBlock (R_region (S_val (.int .i64 1) (by kernel_rfl) (S_val (.int .i64 2) (by kernel_rfl) (S_val (.int .i64 2) (by kernel_rfl) (S_nil (R_inLoop (?_))))))))))))
            have HR := hr_lt HR h443
            refine R_seq (R_seq (R_region (S_val (.int .i64 2) (by kernel_rfl) (S_val (.bool true) (by kernel_rfl) (S_nil (R_yes (by kernel_rfl) (R_skip (R_seq (R_block (R_seq (R_region (?_))))))))))))
            refine S_val (.slice (some ⟨g37, 0, none⟩) 3 3) (by kernel_rfl) (S_val (.int .i64 2) (by kernel_rfl) (S_val (.pointer (some ⟨g37, 2, none⟩)) (by kernel_rfl) (S_load 3 2 (.int .i64 r14) hM454 (by kernel_rfl) (S_call (absU r14) (fun r : Int => .int .u64 r) hM454 (c_umbraref02_Size r14 ((tr (P := fun r : Int => InI r) h15 (clip_I p.2.2)).out) w452) (by kernel_rfl) (fun r455 h456 w457 hM458 => S_val (.int .u64 r455) (by kernel_rfl) (S_nil (R_seq (R_region (S_val (.int .u64 r455) (by kernel_rfl) (S_val (.int .u64 r30) (by kernel_rfl) (S_call (dvq r455 r30) (fun r : Int × Int => .tuple #[.int .u64 r.1, .int .u64 r.2]) hM458 (c_Div64 r455 r30 ((tr (P := fun r : Int => InU r) h456 (absU_InU ((tr (P := fun r : Int => InI r) h15 (clip_I p.2.2)).out))).out) ((tr (P := fun r : Int => InU r) h31 (rootU_U (wr_u64 h29) (show InU 0 from by unfold InU; omega))).out) (by subst_vars; first | exact tow_lt p _ (.inl rfl) (by assumption) | exact tow_lt p _ (.inr (.inl rfl)) (by assumption) | exact tow_lt p _ (.inr (.inr rfl)) (by assumption)) w457) (by kernel_rfl) (fun r459 h460 w461 hM462 => ?_))))))))))))
            have HR := hr_lt HR h456
            have HR := hr_lt HR h460
            refine S_val (.tuple #[.int .u64 r459.1, .int .u64 r459.2]) (by kernel_rfl) (S_val (.int .u64 r459.1) (by kernel_rfl) (S_val (.int .u64 r459.2) (by kernel_rfl) (S_val (.int .u64 r459.1) (by kernel_rfl) (S_val (.int .u64 r459.2) (by kernel_rfl) (S_nil (R_seq (R_seq (R_region (S_val (.slice (some ⟨g37, 0, none⟩) 3 3) (by kernel_rfl) (S_val (.int .i64 2) (by kernel_rfl) (S_val (.pointer (some ⟨g37, 2, none⟩)) (by kernel_rfl) (?_))))))))))))
            refine S_load 3 2 (.int .i64 r14) hM462 (by kernel_rfl) (?_)
            refine S_dec (r14 < 0) (by kernel_rfl) (fun c463 => ?_) (fun c463 => ?_)
            · refine S_val (.bool true) (by kernel_rfl) (S_val (.int .u64 r459.2) (by kernel_rfl) (?_))
              have HR := hr_pos HR c463
              refine S_dec (r459.2 > 0) (by kernel_rfl) (fun c464 => ?_) (fun c464 => ?_)
              · refine S_val (.bool true) (by kernel_rfl) (S_nil (R_yes (by kernel_rfl) (R_region (S_val (.int .u64 r459.1) (by kernel_rfl) (S_int (IntKind.u64.wrap (r459.1 + 1)) .u64 (by kernel_rfl) (fun x465 h466 => S_val (.int .u64 x465) (by kernel_rfl) (S_nil (R_region (S_val (.slice (some ⟨g449, 0, none⟩) 2 cap450) (by kernel_rfl) (S_val (.int .u64 x465) (by kernel_rfl) (S_val (.slice (some ⟨g37, 0, none⟩) 3 3) (by kernel_rfl) (?_))))))))))))
                have HR := hr_pos HR c464
                have HR := hr_lt HR h466
                refine S_val (.int .i64 2) (by kernel_rfl) (S_val (.pointer (some ⟨g37, 2, none⟩)) (by kernel_rfl) (S_load 3 2 (.int .i64 r14) hM462 (by kernel_rfl) (S_val (.bool true) (kdT' c463 (by kernel_rfl)) (S_call (nearV x465 true false) (fun r : Int => .int .i64 r) hM462 (c_Near x465 true false (wr_u64 h466) w461) (by kernel_rfl) (fun r467 h468 w469 hM470 => S_fresh (some 1) #[.int .i64 r467] 24 hM470 (by kernel_rfl) (fun g471 w472 hM473 => S_appN 1 0 2 cap450 1 1 24 1 8 (.int .i64 0) [.int .i64 r332, .int .i64 r442] rest451 [.int .i64 r467] hM473 ok453 (by kernel_rfl) (by kernel_rfl) (by omega) (fun g474 cap475 rest476 w477 ok478 hM479 => S_val (.slice (some ⟨g474, 0, none⟩) 3 cap475) (by kernel_rfl) (S_nil (R_inBlock (R_region (S_val (.int .i64 2) (by kernel_rfl) (?_))))))))))))
                have HR := hr_lt HR h468
                refine S_val (.int .i64 3) (by kernel_rfl) (S_val (.int .i64 3) (by kernel_rfl) (S_nil (R_inLoop (R_seq (R_seq (R_region (S_val (.int .i64 3) (by kernel_rfl) (S_val (.bool false) (by kernel_rfl) (S_nil (R_no (by kernel_rfl) (R_exit rfl (?_))))))))))))
                refine R_seq (R_drawF 10 (by kernel_rfl) (fun F480 U481 hL482 => F_val (.slice (some ⟨g474, 0, none⟩) 3 cap475) (fun _ => by kernel_rfl) (F_val (.pointer (some ⟨g474, 0, none⟩)) (fun _ => by kernel_rfl) (F_load 0 0 (.int .i64 r332) hM479 (by kernel_rfl) (F_val (.slice (some ⟨g474, 0, none⟩) 3 cap475) (fun _ => by kernel_rfl) (F_val (.pointer (some ⟨g474, 1, none⟩)) (fun _ => by kernel_rfl) (F_load 0 1 (.int .i64 r442) hM479 (by kernel_rfl) (F_val (.slice (some ⟨g474, 0, none⟩) 3 cap475) (fun _ => by kernel_rfl) (F_val (.pointer (some ⟨g474, 2, none⟩)) (fun _ => by kernel_rfl) (F_load 0 2 (.int .i64 r467) hM479 (by kernel_rfl) (F_val (.agg #[.int .i64 r332, .int .i64 r442, .int .i64 r467]) (fun _ => by kernel_rfl) (?_))))))))))))
                refine F_nil hM479 hL482 (fun w483 hM484 => S_store 5 0 #[.int .i64 r332, .int .i64 r442, .int .i64 r467] hM484 (by kernel_rfl) (fun w485 hM486 => S_nil (?_)))
                refine R_ret hM486 rfl (.cons (.cell _ _ 5 0 (.agg #[.int .i64 r332, .int .i64 r442, .int .i64 r467]) (by kernel_rfl)) .nil) rfl ?_
                exact ⟨congrArg Ending.returned HR, hM486.below⟩
              · refine S_val (.bool false) (by kernel_rfl) (S_nil (R_no (by kernel_rfl) (R_skip (R_region (S_val (.slice (some ⟨g449, 0, none⟩) 2 cap450) (by kernel_rfl) (S_val (.int .u64 r459.1) (by kernel_rfl) (S_val (.slice (some ⟨g37, 0, none⟩) 3 3) (by kernel_rfl) (S_val (.int .i64 2) (by kernel_rfl) (S_val (.pointer (some ⟨g37, 2, none⟩)) (by kernel_rfl) (S_load 3 2 (.int .i64 r14) hM462 (by kernel_rfl) (S_val (.bool true) (kdT' c463 (by kernel_rfl)) (?_))))))))))))
                have HR := hr_neg HR c464
                refine S_call (nearV r459.1 true false) (fun r : Int => .int .i64 r) hM462 (c_Near r459.1 true false ((tr (P := fun r : Int × Int => (InU r.1 ∧ InU r.2)) h460 (dvq_U ((tr (P := fun r : Int => InU r) h456 (absU_InU ((tr (P := fun r : Int => InI r) h15 (clip_I p.2.2)).out))).out) ((tr (P := fun r : Int => InU r) h31 (rootU_U (wr_u64 h29) (show InU 0 from by unfold InU; omega))).out) (by subst_vars; first | exact tow_lt p _ (.inl rfl) (by assumption) | exact tow_lt p _ (.inr (.inl rfl)) (by assumption) | exact tow_lt p _ (.inr (.inr rfl)) (by assumption)))).out.1) w461) (by kernel_rfl) (fun r487 h488 w489 hM490 => S_fresh (some 1) #[.int .i64 r487] 24 hM490 (by kernel_rfl) (fun g491 w492 hM493 => S_appN 1 0 2 cap450 1 1 24 1 8 (.int .i64 0) [.int .i64 r332, .int .i64 r442] rest451 [.int .i64 r487] hM493 ok453 (by kernel_rfl) (by kernel_rfl) (by omega) (fun g494 cap495 rest496 w497 ok498 hM499 => S_val (.slice (some ⟨g494, 0, none⟩) 3 cap495) (by kernel_rfl) (S_nil (R_inBlock (R_region (S_val (.int .i64 2) (by kernel_rfl) (S_val (.int .i64 3) (by kernel_rfl) (S_val (.int .i64 3) (by kernel_rfl) (S_nil (R_inLoop (?_))))))))))))
                have HR := hr_lt HR h488
                refine R_seq (R_seq (R_region (S_val (.int .i64 3) (by kernel_rfl) (S_val (.bool false) (by kernel_rfl) (S_nil (R_no (by kernel_rfl) (R_exit rfl (R_seq (R_drawF 10 (by kernel_rfl) (fun F500 U501 hL502 => F_val (.slice (some ⟨g494, 0, none⟩) 3 cap495) (fun _ => by kernel_rfl) (F_val (.pointer (some ⟨g494, 0, none⟩)) (fun _ => by kernel_rfl) (?_))))))))))))
                refine F_load 0 0 (.int .i64 r332) hM499 (by kernel_rfl) (F_val (.slice (some ⟨g494, 0, none⟩) 3 cap495) (fun _ => by kernel_rfl) (F_val (.pointer (some ⟨g494, 1, none⟩)) (fun _ => by kernel_rfl) (F_load 0 1 (.int .i64 r442) hM499 (by kernel_rfl) (F_val (.slice (some ⟨g494, 0, none⟩) 3 cap495) (fun _ => by kernel_rfl) (F_val (.pointer (some ⟨g494, 2, none⟩)) (fun _ => by kernel_rfl) (F_load 0 2 (.int .i64 r487) hM499 (by kernel_rfl) (F_val (.agg #[.int .i64 r332, .int .i64 r442, .int .i64 r487]) (fun _ => by kernel_rfl) (F_nil hM499 hL502 (fun w503 hM504 => S_store 5 0 #[.int .i64 r332, .int .i64 r442, .int .i64 r487] hM504 (by kernel_rfl) (fun w505 hM506 => S_nil (?_)))))))))))
                refine R_ret hM506 rfl (.cons (.cell _ _ 5 0 (.agg #[.int .i64 r332, .int .i64 r442, .int .i64 r487]) (by kernel_rfl)) .nil) rfl ?_
                exact ⟨congrArg Ending.returned HR, hM506.below⟩
            · refine S_val (.bool false) (by kernel_rfl) (S_skip (by kernel_rfl) (S_skip (by kernel_rfl) (S_val (.bool false) (by kernel_rfl) (S_nil (R_no (by kernel_rfl) (R_skip (R_region (S_val (.slice (some ⟨g449, 0, none⟩) 2 cap450) (by kernel_rfl) (S_val (.int .u64 r459.1) (by kernel_rfl) (S_val (.slice (some ⟨g37, 0, none⟩) 3 3) (by kernel_rfl) (S_val (.int .i64 2) (by kernel_rfl) (?_))))))))))))
              have HR := hr_neg HR c463
              refine S_val (.pointer (some ⟨g37, 2, none⟩)) (by kernel_rfl) (S_load 3 2 (.int .i64 r14) hM462 (by kernel_rfl) (S_val (.bool false) (kdF' c463 (by kernel_rfl)) (S_call (nearV r459.1 false false) (fun r : Int => .int .i64 r) hM462 (c_Near r459.1 false false ((tr (P := fun r : Int × Int => (InU r.1 ∧ InU r.2)) h460 (dvq_U ((tr (P := fun r : Int => InU r) h456 (absU_InU ((tr (P := fun r : Int => InI r) h15 (clip_I p.2.2)).out))).out) ((tr (P := fun r : Int => InU r) h31 (rootU_U (wr_u64 h29) (show InU 0 from by unfold InU; omega))).out) (by subst_vars; first | exact tow_lt p _ (.inl rfl) (by assumption) | exact tow_lt p _ (.inr (.inl rfl)) (by assumption) | exact tow_lt p _ (.inr (.inr rfl)) (by assumption)))).out.1) w461) (by kernel_rfl) (fun r507 h508 w509 hM510 => S_fresh (some 1) #[.int .i64 r507] 24 hM510 (by kernel_rfl) (fun g511 w512 hM513 => S_appN 1 0 2 cap450 1 1 24 1 8 (.int .i64 0) [.int .i64 r332, .int .i64 r442] rest451 [.int .i64 r507] hM513 ok453 (by kernel_rfl) (by kernel_rfl) (by omega) (fun g514 cap515 rest516 w517 ok518 hM519 => S_val (.slice (some ⟨g514, 0, none⟩) 3 cap515) (by kernel_rfl) (S_nil (R_inBlock (R_region (S_val (.int .i64 2) (by kernel_rfl) (S_val (.int .i64 3) (by kernel_rfl) (?_))))))))))))
              have HR := hr_lt HR h508
              refine S_val (.int .i64 3) (by kernel_rfl) (S_nil (R_inLoop (R_seq (R_seq (R_region (S_val (.int .i64 3) (by kernel_rfl) (S_val (.bool false) (by kernel_rfl) (S_nil (R_no (by kernel_rfl) (R_exit rfl (R_seq (?_))))))))))))
              refine R_drawF 10 (by kernel_rfl) (fun F520 U521 hL522 => F_val (.slice (some ⟨g514, 0, none⟩) 3 cap515) (fun _ => by kernel_rfl) (F_val (.pointer (some ⟨g514, 0, none⟩)) (fun _ => by kernel_rfl) (F_load 0 0 (.int .i64 r332) hM519 (by kernel_rfl) (F_val (.slice (some ⟨g514, 0, none⟩) 3 cap515) (fun _ => by kernel_rfl) (F_val (.pointer (some ⟨g514, 1, none⟩)) (fun _ => by kernel_rfl) (F_load 0 1 (.int .i64 r442) hM519 (by kernel_rfl) (F_val (.slice (some ⟨g514, 0, none⟩) 3 cap515) (fun _ => by kernel_rfl) (F_val (.pointer (some ⟨g514, 2, none⟩)) (fun _ => by kernel_rfl) (F_load 0 2 (.int .i64 r507) hM519 (by kernel_rfl) (F_val (.agg #[.int .i64 r332, .int .i64 r442, .int .i64 r507]) (fun _ => by kernel_rfl) (F_nil hM519 hL522 (fun w523 hM524 => ?_))))))))))))
              refine S_store 5 0 #[.int .i64 r332, .int .i64 r442, .int .i64 r507] hM524 (by kernel_rfl) (fun w525 hM526 => S_nil (?_))
              refine R_ret hM526 rfl (.cons (.cell _ _ 5 0 (.agg #[.int .i64 r332, .int .i64 r442, .int .i64 r507]) (by kernel_rfl)) .nil) rfl ?_
              exact ⟨congrArg Ending.returned HR, hM526.below⟩
        · refine S_val (.bool false) (by kernel_rfl) (S_skip (by kernel_rfl) (S_skip (by kernel_rfl) (S_val (.bool false) (by kernel_rfl) (S_nil (R_no (by kernel_rfl) (R_skip (R_region (S_val (.slice (some ⟨g339, 0, none⟩) 1 cap340) (by kernel_rfl) (S_val (.int .u64 r349.1) (by kernel_rfl) (S_val (.slice (some ⟨g37, 0, none⟩) 3 3) (by kernel_rfl) (S_val (.int .i64 1) (by kernel_rfl) (?_))))))))))))
          have HR := hr_neg HR c353
          refine S_val (.pointer (some ⟨g37, 1, none⟩)) (by kernel_rfl) (S_load 2 1 (.int .i64 r12) hM352 (by kernel_rfl) (S_val (.bool false) (kdF' c353 (by kernel_rfl)) (S_call (nearV r349.1 false false) (fun r : Int => .int .i64 r) hM352 (c_Near r349.1 false false ((tr (P := fun r : Int × Int => (InU r.1 ∧ InU r.2)) h350 (dvq_U ((tr (P := fun r : Int => InU r) h346 (absU_InU ((tr (P := fun r : Int => InI r) h13 (clip_I p.2.1)).out))).out) ((tr (P := fun r : Int => InU r) h31 (rootU_U (wr_u64 h29) (show InU 0 from by unfold InU; omega))).out) (by subst_vars; first | exact tow_lt p _ (.inl rfl) (by assumption) | exact tow_lt p _ (.inr (.inl rfl)) (by assumption) | exact tow_lt p _ (.inr (.inr rfl)) (by assumption)))).out.1) w351) (by kernel_rfl) (fun r527 h528 w529 hM530 => S_fresh (some 1) #[.int .i64 r527] 24 hM530 (by kernel_rfl) (fun g531 w532 hM533 => S_appN 1 0 1 cap340 1 1 24 1 8 (.int .i64 0) [.int .i64 r332] rest341 [.int .i64 r527] hM533 ok343 (by kernel_rfl) (by kernel_rfl) (by omega) (fun g534 cap535 rest536 w537 ok538 hM539 => S_val (.slice (some ⟨g534, 0, none⟩) 2 cap535) (by kernel_rfl) (S_nil (R_inBlock (R_region (S_val (.int .i64 1) (by kernel_rfl) (S_val (.int .i64 2) (by kernel_rfl) (?_))))))))))))
          have HR := hr_lt HR h528
          refine S_val (.int .i64 2) (by kernel_rfl) (S_nil (R_inLoop (R_seq (R_seq (R_region (S_val (.int .i64 2) (by kernel_rfl) (S_val (.bool true) (by kernel_rfl) (S_nil (R_yes (by kernel_rfl) (R_skip (R_seq (?_))))))))))))
          refine R_block (R_seq (R_region (S_val (.slice (some ⟨g37, 0, none⟩) 3 3) (by kernel_rfl) (S_val (.int .i64 2) (by kernel_rfl) (S_val (.pointer (some ⟨g37, 2, none⟩)) (by kernel_rfl) (S_load 3 2 (.int .i64 r14) hM539 (by kernel_rfl) (S_call (absU r14) (fun r : Int => .int .u64 r) hM539 (c_umbraref02_Size r14 ((tr (P := fun r : Int => InI r) h15 (clip_I p.2.2)).out) w537) (by kernel_rfl) (fun r540 h541 w542 hM543 => S_val (.int .u64 r540) (by kernel_rfl) (S_nil (R_seq (R_region (?_))))))))))))
          have HR := hr_lt HR h541
          refine S_val (.int .u64 r540) (by kernel_rfl) (S_val (.int .u64 r30) (by kernel_rfl) (S_call (dvq r540 r30) (fun r : Int × Int => .tuple #[.int .u64 r.1, .int .u64 r.2]) hM543 (c_Div64 r540 r30 ((tr (P := fun r : Int => InU r) h541 (absU_InU ((tr (P := fun r : Int => InI r) h15 (clip_I p.2.2)).out))).out) ((tr (P := fun r : Int => InU r) h31 (rootU_U (wr_u64 h29) (show InU 0 from by unfold InU; omega))).out) (by subst_vars; first | exact tow_lt p _ (.inl rfl) (by assumption) | exact tow_lt p _ (.inr (.inl rfl)) (by assumption) | exact tow_lt p _ (.inr (.inr rfl)) (by assumption)) w542) (by kernel_rfl) (fun r544 h545 w546 hM547 => S_val (.tuple #[.int .u64 r544.1, .int .u64 r544.2]) (by kernel_rfl) (S_val (.int .u64 r544.1) (by kernel_rfl) (S_val (.int .u64 r544.2) (by kernel_rfl) (S_val (.int .u64 r544.1) (by kernel_rfl) (S_val (.int .u64 r544.2) (by kernel_rfl) (S_nil (R_seq (R_seq (R_region (?_))))))))))))
          have HR := hr_lt HR h545
          refine S_val (.slice (some ⟨g37, 0, none⟩) 3 3) (by kernel_rfl) (S_val (.int .i64 2) (by kernel_rfl) (S_val (.pointer (some ⟨g37, 2, none⟩)) (by kernel_rfl) (S_load 3 2 (.int .i64 r14) hM547 (by kernel_rfl) (?_))))
          refine S_dec (r14 < 0) (by kernel_rfl) (fun c548 => ?_) (fun c548 => ?_)
          · refine S_val (.bool true) (by kernel_rfl) (S_val (.int .u64 r544.2) (by kernel_rfl) (?_))
            have HR := hr_pos HR c548
            refine S_dec (r544.2 > 0) (by kernel_rfl) (fun c549 => ?_) (fun c549 => ?_)
            · refine S_val (.bool true) (by kernel_rfl) (S_nil (R_yes (by kernel_rfl) (R_region (S_val (.int .u64 r544.1) (by kernel_rfl) (S_int (IntKind.u64.wrap (r544.1 + 1)) .u64 (by kernel_rfl) (fun x550 h551 => S_val (.int .u64 x550) (by kernel_rfl) (S_nil (R_region (S_val (.slice (some ⟨g534, 0, none⟩) 2 cap535) (by kernel_rfl) (S_val (.int .u64 x550) (by kernel_rfl) (S_val (.slice (some ⟨g37, 0, none⟩) 3 3) (by kernel_rfl) (?_))))))))))))
              have HR := hr_pos HR c549
              have HR := hr_lt HR h551
              refine S_val (.int .i64 2) (by kernel_rfl) (S_val (.pointer (some ⟨g37, 2, none⟩)) (by kernel_rfl) (S_load 3 2 (.int .i64 r14) hM547 (by kernel_rfl) (S_val (.bool true) (kdT' c548 (by kernel_rfl)) (S_call (nearV x550 true false) (fun r : Int => .int .i64 r) hM547 (c_Near x550 true false (wr_u64 h551) w546) (by kernel_rfl) (fun r552 h553 w554 hM555 => S_fresh (some 1) #[.int .i64 r552] 24 hM555 (by kernel_rfl) (fun g556 w557 hM558 => S_appN 1 0 2 cap535 1 1 24 1 8 (.int .i64 0) [.int .i64 r332, .int .i64 r527] rest536 [.int .i64 r552] hM558 ok538 (by kernel_rfl) (by kernel_rfl) (by omega) (fun g559 cap560 rest561 w562 ok563 hM564 => S_val (.slice (some ⟨g559, 0, none⟩) 3 cap560) (by kernel_rfl) (S_nil (R_inBlock (R_region (S_val (.int .i64 2) (by kernel_rfl) (?_))))))))))))
              have HR := hr_lt HR h553
              refine S_val (.int .i64 3) (by kernel_rfl) (S_val (.int .i64 3) (by kernel_rfl) (S_nil (R_inLoop (R_seq (R_seq (R_region (S_val (.int .i64 3) (by kernel_rfl) (S_val (.bool false) (by kernel_rfl) (S_nil (R_no (by kernel_rfl) (R_exit rfl (?_))))))))))))
              refine R_seq (R_drawF 10 (by kernel_rfl) (fun F565 U566 hL567 => F_val (.slice (some ⟨g559, 0, none⟩) 3 cap560) (fun _ => by kernel_rfl) (F_val (.pointer (some ⟨g559, 0, none⟩)) (fun _ => by kernel_rfl) (F_load 0 0 (.int .i64 r332) hM564 (by kernel_rfl) (F_val (.slice (some ⟨g559, 0, none⟩) 3 cap560) (fun _ => by kernel_rfl) (F_val (.pointer (some ⟨g559, 1, none⟩)) (fun _ => by kernel_rfl) (F_load 0 1 (.int .i64 r527) hM564 (by kernel_rfl) (F_val (.slice (some ⟨g559, 0, none⟩) 3 cap560) (fun _ => by kernel_rfl) (F_val (.pointer (some ⟨g559, 2, none⟩)) (fun _ => by kernel_rfl) (F_load 0 2 (.int .i64 r552) hM564 (by kernel_rfl) (F_val (.agg #[.int .i64 r332, .int .i64 r527, .int .i64 r552]) (fun _ => by kernel_rfl) (?_))))))))))))
              refine F_nil hM564 hL567 (fun w568 hM569 => S_store 5 0 #[.int .i64 r332, .int .i64 r527, .int .i64 r552] hM569 (by kernel_rfl) (fun w570 hM571 => S_nil (?_)))
              refine R_ret hM571 rfl (.cons (.cell _ _ 5 0 (.agg #[.int .i64 r332, .int .i64 r527, .int .i64 r552]) (by kernel_rfl)) .nil) rfl ?_
              exact ⟨congrArg Ending.returned HR, hM571.below⟩
            · refine S_val (.bool false) (by kernel_rfl) (S_nil (R_no (by kernel_rfl) (R_skip (R_region (S_val (.slice (some ⟨g534, 0, none⟩) 2 cap535) (by kernel_rfl) (S_val (.int .u64 r544.1) (by kernel_rfl) (S_val (.slice (some ⟨g37, 0, none⟩) 3 3) (by kernel_rfl) (S_val (.int .i64 2) (by kernel_rfl) (S_val (.pointer (some ⟨g37, 2, none⟩)) (by kernel_rfl) (S_load 3 2 (.int .i64 r14) hM547 (by kernel_rfl) (S_val (.bool true) (kdT' c548 (by kernel_rfl)) (?_))))))))))))
              have HR := hr_neg HR c549
              refine S_call (nearV r544.1 true false) (fun r : Int => .int .i64 r) hM547 (c_Near r544.1 true false ((tr (P := fun r : Int × Int => (InU r.1 ∧ InU r.2)) h545 (dvq_U ((tr (P := fun r : Int => InU r) h541 (absU_InU ((tr (P := fun r : Int => InI r) h15 (clip_I p.2.2)).out))).out) ((tr (P := fun r : Int => InU r) h31 (rootU_U (wr_u64 h29) (show InU 0 from by unfold InU; omega))).out) (by subst_vars; first | exact tow_lt p _ (.inl rfl) (by assumption) | exact tow_lt p _ (.inr (.inl rfl)) (by assumption) | exact tow_lt p _ (.inr (.inr rfl)) (by assumption)))).out.1) w546) (by kernel_rfl) (fun r572 h573 w574 hM575 => S_fresh (some 1) #[.int .i64 r572] 24 hM575 (by kernel_rfl) (fun g576 w577 hM578 => S_appN 1 0 2 cap535 1 1 24 1 8 (.int .i64 0) [.int .i64 r332, .int .i64 r527] rest536 [.int .i64 r572] hM578 ok538 (by kernel_rfl) (by kernel_rfl) (by omega) (fun g579 cap580 rest581 w582 ok583 hM584 => S_val (.slice (some ⟨g579, 0, none⟩) 3 cap580) (by kernel_rfl) (S_nil (R_inBlock (R_region (S_val (.int .i64 2) (by kernel_rfl) (S_val (.int .i64 3) (by kernel_rfl) (S_val (.int .i64 3) (by kernel_rfl) (S_nil (R_inLoop (?_))))))))))))
              have HR := hr_lt HR h573
              refine R_seq (R_seq (R_region (S_val (.int .i64 3) (by kernel_rfl) (S_val (.bool false) (by kernel_rfl) (S_nil (R_no (by kernel_rfl) (R_exit rfl (R_seq (R_drawF 10 (by kernel_rfl) (fun F585 U586 hL587 => F_val (.slice (some ⟨g579, 0, none⟩) 3 cap580) (fun _ => by kernel_rfl) (F_val (.pointer (some ⟨g579, 0, none⟩)) (fun _ => by kernel_rfl) (?_))))))))))))
              refine F_load 0 0 (.int .i64 r332) hM584 (by kernel_rfl) (F_val (.slice (some ⟨g579, 0, none⟩) 3 cap580) (fun _ => by kernel_rfl) (F_val (.pointer (some ⟨g579, 1, none⟩)) (fun _ => by kernel_rfl) (F_load 0 1 (.int .i64 r527) hM584 (by kernel_rfl) (F_val (.slice (some ⟨g579, 0, none⟩) 3 cap580) (fun _ => by kernel_rfl) (F_val (.pointer (some ⟨g579, 2, none⟩)) (fun _ => by kernel_rfl) (F_load 0 2 (.int .i64 r572) hM584 (by kernel_rfl) (F_val (.agg #[.int .i64 r332, .int .i64 r527, .int .i64 r572]) (fun _ => by kernel_rfl) (F_nil hM584 hL587 (fun w588 hM589 => S_store 5 0 #[.int .i64 r332, .int .i64 r527, .int .i64 r572] hM589 (by kernel_rfl) (fun w590 hM591 => S_nil (?_)))))))))))
              refine R_ret hM591 rfl (.cons (.cell _ _ 5 0 (.agg #[.int .i64 r332, .int .i64 r527, .int .i64 r572]) (by kernel_rfl)) .nil) rfl ?_
              exact ⟨congrArg Ending.returned HR, hM591.below⟩
          · refine S_val (.bool false) (by kernel_rfl) (S_skip (by kernel_rfl) (S_skip (by kernel_rfl) (S_val (.bool false) (by kernel_rfl) (S_nil (R_no (by kernel_rfl) (R_skip (R_region (S_val (.slice (some ⟨g534, 0, none⟩) 2 cap535) (by kernel_rfl) (S_val (.int .u64 r544.1) (by kernel_rfl) (S_val (.slice (some ⟨g37, 0, none⟩) 3 3) (by kernel_rfl) (S_val (.int .i64 2) (by kernel_rfl) (?_))))))))))))
            have HR := hr_neg HR c548
            refine S_val (.pointer (some ⟨g37, 2, none⟩)) (by kernel_rfl) (S_load 3 2 (.int .i64 r14) hM547 (by kernel_rfl) (S_val (.bool false) (kdF' c548 (by kernel_rfl)) (S_call (nearV r544.1 false false) (fun r : Int => .int .i64 r) hM547 (c_Near r544.1 false false ((tr (P := fun r : Int × Int => (InU r.1 ∧ InU r.2)) h545 (dvq_U ((tr (P := fun r : Int => InU r) h541 (absU_InU ((tr (P := fun r : Int => InI r) h15 (clip_I p.2.2)).out))).out) ((tr (P := fun r : Int => InU r) h31 (rootU_U (wr_u64 h29) (show InU 0 from by unfold InU; omega))).out) (by subst_vars; first | exact tow_lt p _ (.inl rfl) (by assumption) | exact tow_lt p _ (.inr (.inl rfl)) (by assumption) | exact tow_lt p _ (.inr (.inr rfl)) (by assumption)))).out.1) w546) (by kernel_rfl) (fun r592 h593 w594 hM595 => S_fresh (some 1) #[.int .i64 r592] 24 hM595 (by kernel_rfl) (fun g596 w597 hM598 => S_appN 1 0 2 cap535 1 1 24 1 8 (.int .i64 0) [.int .i64 r332, .int .i64 r527] rest536 [.int .i64 r592] hM598 ok538 (by kernel_rfl) (by kernel_rfl) (by omega) (fun g599 cap600 rest601 w602 ok603 hM604 => S_val (.slice (some ⟨g599, 0, none⟩) 3 cap600) (by kernel_rfl) (S_nil (R_inBlock (R_region (S_val (.int .i64 2) (by kernel_rfl) (S_val (.int .i64 3) (by kernel_rfl) (?_))))))))))))
            have HR := hr_lt HR h593
            refine S_val (.int .i64 3) (by kernel_rfl) (S_nil (R_inLoop (R_seq (R_seq (R_region (S_val (.int .i64 3) (by kernel_rfl) (S_val (.bool false) (by kernel_rfl) (S_nil (R_no (by kernel_rfl) (R_exit rfl (R_seq (?_))))))))))))
            refine R_drawF 10 (by kernel_rfl) (fun F605 U606 hL607 => F_val (.slice (some ⟨g599, 0, none⟩) 3 cap600) (fun _ => by kernel_rfl) (F_val (.pointer (some ⟨g599, 0, none⟩)) (fun _ => by kernel_rfl) (F_load 0 0 (.int .i64 r332) hM604 (by kernel_rfl) (F_val (.slice (some ⟨g599, 0, none⟩) 3 cap600) (fun _ => by kernel_rfl) (F_val (.pointer (some ⟨g599, 1, none⟩)) (fun _ => by kernel_rfl) (F_load 0 1 (.int .i64 r527) hM604 (by kernel_rfl) (F_val (.slice (some ⟨g599, 0, none⟩) 3 cap600) (fun _ => by kernel_rfl) (F_val (.pointer (some ⟨g599, 2, none⟩)) (fun _ => by kernel_rfl) (F_load 0 2 (.int .i64 r592) hM604 (by kernel_rfl) (F_val (.agg #[.int .i64 r332, .int .i64 r527, .int .i64 r592]) (fun _ => by kernel_rfl) (F_nil hM604 hL607 (fun w608 hM609 => ?_))))))))))))
            refine S_store 5 0 #[.int .i64 r332, .int .i64 r527, .int .i64 r592] hM609 (by kernel_rfl) (fun w610 hM611 => S_nil (?_))
            refine R_ret hM611 rfl (.cons (.cell _ _ 5 0 (.agg #[.int .i64 r332, .int .i64 r527, .int .i64 r592]) (by kernel_rfl)) .nil) rfl ?_
            exact ⟨congrArg Ending.returned HR, hM611.below⟩
    · refine S_val (.bool false) (by kernel_rfl) (S_skip (by kernel_rfl) (S_skip (by kernel_rfl) (S_val (.bool false) (by kernel_rfl) (S_nil (R_no (by kernel_rfl) (R_skip (R_region (S_val (.slice none 0 0) (by kernel_rfl) (S_val (.int .u64 r44.1) (by kernel_rfl) (S_val (.slice (some ⟨g37, 0, none⟩) 3 3) (by kernel_rfl) (S_val (.int .i64 0) (by kernel_rfl) (?_))))))))))))
      have HR := hr_neg HR c48
      refine S_val (.pointer (some ⟨g37, 0, none⟩)) (by kernel_rfl) (S_load 0 0 (.int .i64 r10) hM47 (by kernel_rfl) (S_val (.bool false) (kdF' c48 (by kernel_rfl)) (S_call (nearV r44.1 false false) (fun r : Int => .int .i64 r) hM47 (c_Near r44.1 false false ((tr (P := fun r : Int × Int => (InU r.1 ∧ InU r.2)) h45 (dvq_U ((tr (P := fun r : Int => InU r) h41 (absU_InU ((tr (P := fun r : Int => InI r) h11 (clip_I p.1)).out))).out) ((tr (P := fun r : Int => InU r) h31 (rootU_U (wr_u64 h29) (show InU 0 from by unfold InU; omega))).out) (by subst_vars; first | exact tow_lt p _ (.inl rfl) (by assumption) | exact tow_lt p _ (.inr (.inl rfl)) (by assumption) | exact tow_lt p _ (.inr (.inr rfl)) (by assumption)))).out.1) w46) (by kernel_rfl) (fun r612 h613 w614 hM615 => S_fresh (some 1) #[.int .i64 r612] 24 hM615 (by kernel_rfl) (fun g616 w617 hM618 => S_app0 0 1 1 24 1 8 (.int .i64 0) [.int .i64 r612] hM618 (by kernel_rfl) (by kernel_rfl) (fun g619 cap620 rest621 w622 ok623 hM624 => S_val (.slice (some ⟨g619, 0, none⟩) 1 cap620) (by kernel_rfl) (S_nil (R_inBlock (R_region (S_val (.int .i64 0) (by kernel_rfl) (S_val (.int .i64 1) (by kernel_rfl) (?_))))))))))))
      have HR := hr_lt HR h613
      refine S_val (.int .i64 1) (by kernel_rfl) (S_nil (R_inLoop (R_seq (R_seq (R_region (S_val (.int .i64 1) (by kernel_rfl) (S_val (.bool true) (by kernel_rfl) (S_nil (R_yes (by kernel_rfl) (R_skip (R_seq (?_))))))))))))
      refine R_block (R_seq (R_region (S_val (.slice (some ⟨g37, 0, none⟩) 3 3) (by kernel_rfl) (S_val (.int .i64 1) (by kernel_rfl) (S_val (.pointer (some ⟨g37, 1, none⟩)) (by kernel_rfl) (S_load 2 1 (.int .i64 r12) hM624 (by kernel_rfl) (S_call (absU r12) (fun r : Int => .int .u64 r) hM624 (c_umbraref02_Size r12 ((tr (P := fun r : Int => InI r) h13 (clip_I p.2.1)).out) w622) (by kernel_rfl) (fun r625 h626 w627 hM628 => S_val (.int .u64 r625) (by kernel_rfl) (S_nil (R_seq (R_region (?_))))))))))))
      have HR := hr_lt HR h626
      refine S_val (.int .u64 r625) (by kernel_rfl) (S_val (.int .u64 r30) (by kernel_rfl) (S_call (dvq r625 r30) (fun r : Int × Int => .tuple #[.int .u64 r.1, .int .u64 r.2]) hM628 (c_Div64 r625 r30 ((tr (P := fun r : Int => InU r) h626 (absU_InU ((tr (P := fun r : Int => InI r) h13 (clip_I p.2.1)).out))).out) ((tr (P := fun r : Int => InU r) h31 (rootU_U (wr_u64 h29) (show InU 0 from by unfold InU; omega))).out) (by subst_vars; first | exact tow_lt p _ (.inl rfl) (by assumption) | exact tow_lt p _ (.inr (.inl rfl)) (by assumption) | exact tow_lt p _ (.inr (.inr rfl)) (by assumption)) w627) (by kernel_rfl) (fun r629 h630 w631 hM632 => S_val (.tuple #[.int .u64 r629.1, .int .u64 r629.2]) (by kernel_rfl) (S_val (.int .u64 r629.1) (by kernel_rfl) (S_val (.int .u64 r629.2) (by kernel_rfl) (S_val (.int .u64 r629.1) (by kernel_rfl) (S_val (.int .u64 r629.2) (by kernel_rfl) (S_nil (R_seq (R_seq (R_region (?_))))))))))))
      have HR := hr_lt HR h630
      refine S_val (.slice (some ⟨g37, 0, none⟩) 3 3) (by kernel_rfl) (S_val (.int .i64 1) (by kernel_rfl) (S_val (.pointer (some ⟨g37, 1, none⟩)) (by kernel_rfl) (S_load 2 1 (.int .i64 r12) hM632 (by kernel_rfl) (?_))))
      refine S_dec (r12 < 0) (by kernel_rfl) (fun c633 => ?_) (fun c633 => ?_)
      · refine S_val (.bool true) (by kernel_rfl) (S_val (.int .u64 r629.2) (by kernel_rfl) (?_))
        have HR := hr_pos HR c633
        refine S_dec (r629.2 > 0) (by kernel_rfl) (fun c634 => ?_) (fun c634 => ?_)
        · refine S_val (.bool true) (by kernel_rfl) (S_nil (R_yes (by kernel_rfl) (R_region (S_val (.int .u64 r629.1) (by kernel_rfl) (S_int (IntKind.u64.wrap (r629.1 + 1)) .u64 (by kernel_rfl) (fun x635 h636 => S_val (.int .u64 x635) (by kernel_rfl) (S_nil (R_region (S_val (.slice (some ⟨g619, 0, none⟩) 1 cap620) (by kernel_rfl) (S_val (.int .u64 x635) (by kernel_rfl) (S_val (.slice (some ⟨g37, 0, none⟩) 3 3) (by kernel_rfl) (?_))))))))))))
          have HR := hr_pos HR c634
          have HR := hr_lt HR h636
          refine S_val (.int .i64 1) (by kernel_rfl) (S_val (.pointer (some ⟨g37, 1, none⟩)) (by kernel_rfl) (S_load 2 1 (.int .i64 r12) hM632 (by kernel_rfl) (S_val (.bool true) (kdT' c633 (by kernel_rfl)) (S_call (nearV x635 true false) (fun r : Int => .int .i64 r) hM632 (c_Near x635 true false (wr_u64 h636) w631) (by kernel_rfl) (fun r637 h638 w639 hM640 => S_fresh (some 1) #[.int .i64 r637] 24 hM640 (by kernel_rfl) (fun g641 w642 hM643 => S_appN 1 0 1 cap620 1 1 24 1 8 (.int .i64 0) [.int .i64 r612] rest621 [.int .i64 r637] hM643 ok623 (by kernel_rfl) (by kernel_rfl) (by omega) (fun g644 cap645 rest646 w647 ok648 hM649 => S_val (.slice (some ⟨g644, 0, none⟩) 2 cap645) (by kernel_rfl) (S_nil (R_inBlock (R_region (S_val (.int .i64 1) (by kernel_rfl) (?_))))))))))))
          have HR := hr_lt HR h638
          refine S_val (.int .i64 2) (by kernel_rfl) (S_val (.int .i64 2) (by kernel_rfl) (S_nil (R_inLoop (R_seq (R_seq (R_region (S_val (.int .i64 2) (by kernel_rfl) (S_val (.bool true) (by kernel_rfl) (S_nil (R_yes (by kernel_rfl) (R_skip (?_))))))))))))
          refine R_seq (R_block (R_seq (R_region (S_val (.slice (some ⟨g37, 0, none⟩) 3 3) (by kernel_rfl) (S_val (.int .i64 2) (by kernel_rfl) (S_val (.pointer (some ⟨g37, 2, none⟩)) (by kernel_rfl) (S_load 3 2 (.int .i64 r14) hM649 (by kernel_rfl) (S_call (absU r14) (fun r : Int => .int .u64 r) hM649 (c_umbraref02_Size r14 ((tr (P := fun r : Int => InI r) h15 (clip_I p.2.2)).out) w647) (by kernel_rfl) (fun r650 h651 w652 hM653 => S_val (.int .u64 r650) (by kernel_rfl) (S_nil (R_seq (?_))))))))))))
          have HR := hr_lt HR h651
          refine R_region (S_val (.int .u64 r650) (by kernel_rfl) (S_val (.int .u64 r30) (by kernel_rfl) (S_call (dvq r650 r30) (fun r : Int × Int => .tuple #[.int .u64 r.1, .int .u64 r.2]) hM653 (c_Div64 r650 r30 ((tr (P := fun r : Int => InU r) h651 (absU_InU ((tr (P := fun r : Int => InI r) h15 (clip_I p.2.2)).out))).out) ((tr (P := fun r : Int => InU r) h31 (rootU_U (wr_u64 h29) (show InU 0 from by unfold InU; omega))).out) (by subst_vars; first | exact tow_lt p _ (.inl rfl) (by assumption) | exact tow_lt p _ (.inr (.inl rfl)) (by assumption) | exact tow_lt p _ (.inr (.inr rfl)) (by assumption)) w652) (by kernel_rfl) (fun r654 h655 w656 hM657 => S_val (.tuple #[.int .u64 r654.1, .int .u64 r654.2]) (by kernel_rfl) (S_val (.int .u64 r654.1) (by kernel_rfl) (S_val (.int .u64 r654.2) (by kernel_rfl) (S_val (.int .u64 r654.1) (by kernel_rfl) (S_val (.int .u64 r654.2) (by kernel_rfl) (S_nil (R_seq (R_seq (?_))))))))))))
          have HR := hr_lt HR h655
          refine R_region (S_val (.slice (some ⟨g37, 0, none⟩) 3 3) (by kernel_rfl) (S_val (.int .i64 2) (by kernel_rfl) (S_val (.pointer (some ⟨g37, 2, none⟩)) (by kernel_rfl) (S_load 3 2 (.int .i64 r14) hM657 (by kernel_rfl) (?_)))))
          refine S_dec (r14 < 0) (by kernel_rfl) (fun c658 => ?_) (fun c658 => ?_)
          · refine S_val (.bool true) (by kernel_rfl) (S_val (.int .u64 r654.2) (by kernel_rfl) (?_))
            have HR := hr_pos HR c658
            refine S_dec (r654.2 > 0) (by kernel_rfl) (fun c659 => ?_) (fun c659 => ?_)
            · refine S_val (.bool true) (by kernel_rfl) (S_nil (R_yes (by kernel_rfl) (R_region (S_val (.int .u64 r654.1) (by kernel_rfl) (S_int (IntKind.u64.wrap (r654.1 + 1)) .u64 (by kernel_rfl) (fun x660 h661 => S_val (.int .u64 x660) (by kernel_rfl) (S_nil (R_region (S_val (.slice (some ⟨g644, 0, none⟩) 2 cap645) (by kernel_rfl) (S_val (.int .u64 x660) (by kernel_rfl) (S_val (.slice (some ⟨g37, 0, none⟩) 3 3) (by kernel_rfl) (?_))))))))))))
              have HR := hr_pos HR c659
              have HR := hr_lt HR h661
              refine S_val (.int .i64 2) (by kernel_rfl) (S_val (.pointer (some ⟨g37, 2, none⟩)) (by kernel_rfl) (S_load 3 2 (.int .i64 r14) hM657 (by kernel_rfl) (S_val (.bool true) (kdT' c658 (by kernel_rfl)) (S_call (nearV x660 true false) (fun r : Int => .int .i64 r) hM657 (c_Near x660 true false (wr_u64 h661) w656) (by kernel_rfl) (fun r662 h663 w664 hM665 => S_fresh (some 1) #[.int .i64 r662] 24 hM665 (by kernel_rfl) (fun g666 w667 hM668 => S_appN 1 0 2 cap645 1 1 24 1 8 (.int .i64 0) [.int .i64 r612, .int .i64 r637] rest646 [.int .i64 r662] hM668 ok648 (by kernel_rfl) (by kernel_rfl) (by omega) (fun g669 cap670 rest671 w672 ok673 hM674 => S_val (.slice (some ⟨g669, 0, none⟩) 3 cap670) (by kernel_rfl) (S_nil (R_inBlock (R_region (S_val (.int .i64 2) (by kernel_rfl) (?_))))))))))))
              have HR := hr_lt HR h663
              refine S_val (.int .i64 3) (by kernel_rfl) (S_val (.int .i64 3) (by kernel_rfl) (S_nil (R_inLoop (R_seq (R_seq (R_region (S_val (.int .i64 3) (by kernel_rfl) (S_val (.bool false) (by kernel_rfl) (S_nil (R_no (by kernel_rfl) (R_exit rfl (?_))))))))))))
              refine R_seq (R_drawF 10 (by kernel_rfl) (fun F675 U676 hL677 => F_val (.slice (some ⟨g669, 0, none⟩) 3 cap670) (fun _ => by kernel_rfl) (F_val (.pointer (some ⟨g669, 0, none⟩)) (fun _ => by kernel_rfl) (F_load 0 0 (.int .i64 r612) hM674 (by kernel_rfl) (F_val (.slice (some ⟨g669, 0, none⟩) 3 cap670) (fun _ => by kernel_rfl) (F_val (.pointer (some ⟨g669, 1, none⟩)) (fun _ => by kernel_rfl) (F_load 0 1 (.int .i64 r637) hM674 (by kernel_rfl) (F_val (.slice (some ⟨g669, 0, none⟩) 3 cap670) (fun _ => by kernel_rfl) (F_val (.pointer (some ⟨g669, 2, none⟩)) (fun _ => by kernel_rfl) (F_load 0 2 (.int .i64 r662) hM674 (by kernel_rfl) (F_val (.agg #[.int .i64 r612, .int .i64 r637, .int .i64 r662]) (fun _ => by kernel_rfl) (?_))))))))))))
              refine F_nil hM674 hL677 (fun w678 hM679 => S_store 5 0 #[.int .i64 r612, .int .i64 r637, .int .i64 r662] hM679 (by kernel_rfl) (fun w680 hM681 => S_nil (?_)))
              refine R_ret hM681 rfl (.cons (.cell _ _ 5 0 (.agg #[.int .i64 r612, .int .i64 r637, .int .i64 r662]) (by kernel_rfl)) .nil) rfl ?_
              exact ⟨congrArg Ending.returned HR, hM681.below⟩
            · refine S_val (.bool false) (by kernel_rfl) (S_nil (R_no (by kernel_rfl) (R_skip (R_region (S_val (.slice (some ⟨g644, 0, none⟩) 2 cap645) (by kernel_rfl) (S_val (.int .u64 r654.1) (by kernel_rfl) (S_val (.slice (some ⟨g37, 0, none⟩) 3 3) (by kernel_rfl) (S_val (.int .i64 2) (by kernel_rfl) (S_val (.pointer (some ⟨g37, 2, none⟩)) (by kernel_rfl) (S_load 3 2 (.int .i64 r14) hM657 (by kernel_rfl) (S_val (.bool true) (kdT' c658 (by kernel_rfl)) (?_))))))))))))
              have HR := hr_neg HR c659
              refine S_call (nearV r654.1 true false) (fun r : Int => .int .i64 r) hM657 (c_Near r654.1 true false ((tr (P := fun r : Int × Int => (InU r.1 ∧ InU r.2)) h655 (dvq_U ((tr (P := fun r : Int => InU r) h651 (absU_InU ((tr (P := fun r : Int => InI r) h15 (clip_I p.2.2)).out))).out) ((tr (P := fun r : Int => InU r) h31 (rootU_U (wr_u64 h29) (show InU 0 from by unfold InU; omega))).out) (by subst_vars; first | exact tow_lt p _ (.inl rfl) (by assumption) | exact tow_lt p _ (.inr (.inl rfl)) (by assumption) | exact tow_lt p _ (.inr (.inr rfl)) (by assumption)))).out.1) w656) (by kernel_rfl) (fun r682 h683 w684 hM685 => S_fresh (some 1) #[.int .i64 r682] 24 hM685 (by kernel_rfl) (fun g686 w687 hM688 => S_appN 1 0 2 cap645 1 1 24 1 8 (.int .i64 0) [.int .i64 r612, .int .i64 r637] rest646 [.int .i64 r682] hM688 ok648 (by kernel_rfl) (by kernel_rfl) (by omega) (fun g689 cap690 rest691 w692 ok693 hM694 => S_val (.slice (some ⟨g689, 0, none⟩) 3 cap690) (by kernel_rfl) (S_nil (R_inBlock (R_region (S_val (.int .i64 2) (by kernel_rfl) (S_val (.int .i64 3) (by kernel_rfl) (S_val (.int .i64 3) (by kernel_rfl) (S_nil (R_inLoop (?_))))))))))))
              have HR := hr_lt HR h683
              refine R_seq (R_seq (R_region (S_val (.int .i64 3) (by kernel_rfl) (S_val (.bool false) (by kernel_rfl) (S_nil (R_no (by kernel_rfl) (R_exit rfl (R_seq (R_drawF 10 (by kernel_rfl) (fun F695 U696 hL697 => F_val (.slice (some ⟨g689, 0, none⟩) 3 cap690) (fun _ => by kernel_rfl) (F_val (.pointer (some ⟨g689, 0, none⟩)) (fun _ => by kernel_rfl) (?_))))))))))))
              refine F_load 0 0 (.int .i64 r612) hM694 (by kernel_rfl) (F_val (.slice (some ⟨g689, 0, none⟩) 3 cap690) (fun _ => by kernel_rfl) (F_val (.pointer (some ⟨g689, 1, none⟩)) (fun _ => by kernel_rfl) (F_load 0 1 (.int .i64 r637) hM694 (by kernel_rfl) (F_val (.slice (some ⟨g689, 0, none⟩) 3 cap690) (fun _ => by kernel_rfl) (F_val (.pointer (some ⟨g689, 2, none⟩)) (fun _ => by kernel_rfl) (F_load 0 2 (.int .i64 r682) hM694 (by kernel_rfl) (F_val (.agg #[.int .i64 r612, .int .i64 r637, .int .i64 r682]) (fun _ => by kernel_rfl) (F_nil hM694 hL697 (fun w698 hM699 => S_store 5 0 #[.int .i64 r612, .int .i64 r637, .int .i64 r682] hM699 (by kernel_rfl) (fun w700 hM701 => S_nil (?_)))))))))))
              refine R_ret hM701 rfl (.cons (.cell _ _ 5 0 (.agg #[.int .i64 r612, .int .i64 r637, .int .i64 r682]) (by kernel_rfl)) .nil) rfl ?_
              exact ⟨congrArg Ending.returned HR, hM701.below⟩
          · refine S_val (.bool false) (by kernel_rfl) (S_skip (by kernel_rfl) (S_skip (by kernel_rfl) (S_val (.bool false) (by kernel_rfl) (S_nil (R_no (by kernel_rfl) (R_skip (R_region (S_val (.slice (some ⟨g644, 0, none⟩) 2 cap645) (by kernel_rfl) (S_val (.int .u64 r654.1) (by kernel_rfl) (S_val (.slice (some ⟨g37, 0, none⟩) 3 3) (by kernel_rfl) (S_val (.int .i64 2) (by kernel_rfl) (?_))))))))))))
            have HR := hr_neg HR c658
            refine S_val (.pointer (some ⟨g37, 2, none⟩)) (by kernel_rfl) (S_load 3 2 (.int .i64 r14) hM657 (by kernel_rfl) (S_val (.bool false) (kdF' c658 (by kernel_rfl)) (S_call (nearV r654.1 false false) (fun r : Int => .int .i64 r) hM657 (c_Near r654.1 false false ((tr (P := fun r : Int × Int => (InU r.1 ∧ InU r.2)) h655 (dvq_U ((tr (P := fun r : Int => InU r) h651 (absU_InU ((tr (P := fun r : Int => InI r) h15 (clip_I p.2.2)).out))).out) ((tr (P := fun r : Int => InU r) h31 (rootU_U (wr_u64 h29) (show InU 0 from by unfold InU; omega))).out) (by subst_vars; first | exact tow_lt p _ (.inl rfl) (by assumption) | exact tow_lt p _ (.inr (.inl rfl)) (by assumption) | exact tow_lt p _ (.inr (.inr rfl)) (by assumption)))).out.1) w656) (by kernel_rfl) (fun r702 h703 w704 hM705 => S_fresh (some 1) #[.int .i64 r702] 24 hM705 (by kernel_rfl) (fun g706 w707 hM708 => S_appN 1 0 2 cap645 1 1 24 1 8 (.int .i64 0) [.int .i64 r612, .int .i64 r637] rest646 [.int .i64 r702] hM708 ok648 (by kernel_rfl) (by kernel_rfl) (by omega) (fun g709 cap710 rest711 w712 ok713 hM714 => S_val (.slice (some ⟨g709, 0, none⟩) 3 cap710) (by kernel_rfl) (S_nil (R_inBlock (R_region (S_val (.int .i64 2) (by kernel_rfl) (S_val (.int .i64 3) (by kernel_rfl) (?_))))))))))))
            have HR := hr_lt HR h703
            refine S_val (.int .i64 3) (by kernel_rfl) (S_nil (R_inLoop (R_seq (R_seq (R_region (S_val (.int .i64 3) (by kernel_rfl) (S_val (.bool false) (by kernel_rfl) (S_nil (R_no (by kernel_rfl) (R_exit rfl (R_seq (?_))))))))))))
            refine R_drawF 10 (by kernel_rfl) (fun F715 U716 hL717 => F_val (.slice (some ⟨g709, 0, none⟩) 3 cap710) (fun _ => by kernel_rfl) (F_val (.pointer (some ⟨g709, 0, none⟩)) (fun _ => by kernel_rfl) (F_load 0 0 (.int .i64 r612) hM714 (by kernel_rfl) (F_val (.slice (some ⟨g709, 0, none⟩) 3 cap710) (fun _ => by kernel_rfl) (F_val (.pointer (some ⟨g709, 1, none⟩)) (fun _ => by kernel_rfl) (F_load 0 1 (.int .i64 r637) hM714 (by kernel_rfl) (F_val (.slice (some ⟨g709, 0, none⟩) 3 cap710) (fun _ => by kernel_rfl) (F_val (.pointer (some ⟨g709, 2, none⟩)) (fun _ => by kernel_rfl) (F_load 0 2 (.int .i64 r702) hM714 (by kernel_rfl) (F_val (.agg #[.int .i64 r612, .int .i64 r637, .int .i64 r702]) (fun _ => by kernel_rfl) (F_nil hM714 hL717 (fun w718 hM719 => ?_))))))))))))
            refine S_store 5 0 #[.int .i64 r612, .int .i64 r637, .int .i64 r702] hM719 (by kernel_rfl) (fun w720 hM721 => S_nil (?_))
            refine R_ret hM721 rfl (.cons (.cell _ _ 5 0 (.agg #[.int .i64 r612, .int .i64 r637, .int .i64 r702]) (by kernel_rfl)) .nil) rfl ?_
            exact ⟨congrArg Ending.returned HR, hM721.below⟩
        · refine S_val (.bool false) (by kernel_rfl) (S_nil (R_no (by kernel_rfl) (R_skip (R_region (S_val (.slice (some ⟨g619, 0, none⟩) 1 cap620) (by kernel_rfl) (S_val (.int .u64 r629.1) (by kernel_rfl) (S_val (.slice (some ⟨g37, 0, none⟩) 3 3) (by kernel_rfl) (S_val (.int .i64 1) (by kernel_rfl) (S_val (.pointer (some ⟨g37, 1, none⟩)) (by kernel_rfl) (S_load 2 1 (.int .i64 r12) hM632 (by kernel_rfl) (S_val (.bool true) (kdT' c633 (by kernel_rfl)) (?_))))))))))))
          have HR := hr_neg HR c634
          refine S_call (nearV r629.1 true false) (fun r : Int => .int .i64 r) hM632 (c_Near r629.1 true false ((tr (P := fun r : Int × Int => (InU r.1 ∧ InU r.2)) h630 (dvq_U ((tr (P := fun r : Int => InU r) h626 (absU_InU ((tr (P := fun r : Int => InI r) h13 (clip_I p.2.1)).out))).out) ((tr (P := fun r : Int => InU r) h31 (rootU_U (wr_u64 h29) (show InU 0 from by unfold InU; omega))).out) (by subst_vars; first | exact tow_lt p _ (.inl rfl) (by assumption) | exact tow_lt p _ (.inr (.inl rfl)) (by assumption) | exact tow_lt p _ (.inr (.inr rfl)) (by assumption)))).out.1) w631) (by kernel_rfl) (fun r722 h723 w724 hM725 => S_fresh (some 1) #[.int .i64 r722] 24 hM725 (by kernel_rfl) (fun g726 w727 hM728 => S_appN 1 0 1 cap620 1 1 24 1 8 (.int .i64 0) [.int .i64 r612] rest621 [.int .i64 r722] hM728 ok623 (by kernel_rfl) (by kernel_rfl) (by omega) (fun g729 cap730 rest731 w732 ok733 hM734 => S_val (.slice (some ⟨g729, 0, none⟩) 2 cap730) (by kernel_rfl) (S_nil (R_inBlock (R_region (S_val (.int .i64 1) (by kernel_rfl) (S_val (.int .i64 2) (by kernel_rfl) (S_val (.int .i64 2) (by kernel_rfl) (S_nil (R_inLoop (?_))))))))))))
          have HR := hr_lt HR h723
          refine R_seq (R_seq (R_region (S_val (.int .i64 2) (by kernel_rfl) (S_val (.bool true) (by kernel_rfl) (S_nil (R_yes (by kernel_rfl) (R_skip (R_seq (R_block (R_seq (R_region (?_))))))))))))
          refine S_val (.slice (some ⟨g37, 0, none⟩) 3 3) (by kernel_rfl) (S_val (.int .i64 2) (by kernel_rfl) (S_val (.pointer (some ⟨g37, 2, none⟩)) (by kernel_rfl) (S_load 3 2 (.int .i64 r14) hM734 (by kernel_rfl) (S_call (absU r14) (fun r : Int => .int .u64 r) hM734 (c_umbraref02_Size r14 ((tr (P := fun r : Int => InI r) h15 (clip_I p.2.2)).out) w732) (by kernel_rfl) (fun r735 h736 w737 hM738 => S_val (.int .u64 r735) (by kernel_rfl) (S_nil (R_seq (R_region (S_val (.int .u64 r735) (by kernel_rfl) (S_val (.int .u64 r30) (by kernel_rfl) (S_call (dvq r735 r30) (fun r : Int × Int => .tuple #[.int .u64 r.1, .int .u64 r.2]) hM738 (c_Div64 r735 r30 ((tr (P := fun r : Int => InU r) h736 (absU_InU ((tr (P := fun r : Int => InI r) h15 (clip_I p.2.2)).out))).out) ((tr (P := fun r : Int => InU r) h31 (rootU_U (wr_u64 h29) (show InU 0 from by unfold InU; omega))).out) (by subst_vars; first | exact tow_lt p _ (.inl rfl) (by assumption) | exact tow_lt p _ (.inr (.inl rfl)) (by assumption) | exact tow_lt p _ (.inr (.inr rfl)) (by assumption)) w737) (by kernel_rfl) (fun r739 h740 w741 hM742 => ?_))))))))))))
          have HR := hr_lt HR h736
          have HR := hr_lt HR h740
          refine S_val (.tuple #[.int .u64 r739.1, .int .u64 r739.2]) (by kernel_rfl) (S_val (.int .u64 r739.1) (by kernel_rfl) (S_val (.int .u64 r739.2) (by kernel_rfl) (S_val (.int .u64 r739.1) (by kernel_rfl) (S_val (.int .u64 r739.2) (by kernel_rfl) (S_nil (R_seq (R_seq (R_region (S_val (.slice (some ⟨g37, 0, none⟩) 3 3) (by kernel_rfl) (S_val (.int .i64 2) (by kernel_rfl) (S_val (.pointer (some ⟨g37, 2, none⟩)) (by kernel_rfl) (?_))))))))))))
          refine S_load 3 2 (.int .i64 r14) hM742 (by kernel_rfl) (?_)
          refine S_dec (r14 < 0) (by kernel_rfl) (fun c743 => ?_) (fun c743 => ?_)
          · refine S_val (.bool true) (by kernel_rfl) (S_val (.int .u64 r739.2) (by kernel_rfl) (?_))
            have HR := hr_pos HR c743
            refine S_dec (r739.2 > 0) (by kernel_rfl) (fun c744 => ?_) (fun c744 => ?_)
            · refine S_val (.bool true) (by kernel_rfl) (S_nil (R_yes (by kernel_rfl) (R_region (S_val (.int .u64 r739.1) (by kernel_rfl) (S_int (IntKind.u64.wrap (r739.1 + 1)) .u64 (by kernel_rfl) (fun x745 h746 => S_val (.int .u64 x745) (by kernel_rfl) (S_nil (R_region (S_val (.slice (some ⟨g729, 0, none⟩) 2 cap730) (by kernel_rfl) (S_val (.int .u64 x745) (by kernel_rfl) (S_val (.slice (some ⟨g37, 0, none⟩) 3 3) (by kernel_rfl) (?_))))))))))))
              have HR := hr_pos HR c744
              have HR := hr_lt HR h746
              refine S_val (.int .i64 2) (by kernel_rfl) (S_val (.pointer (some ⟨g37, 2, none⟩)) (by kernel_rfl) (S_load 3 2 (.int .i64 r14) hM742 (by kernel_rfl) (S_val (.bool true) (kdT' c743 (by kernel_rfl)) (S_call (nearV x745 true false) (fun r : Int => .int .i64 r) hM742 (c_Near x745 true false (wr_u64 h746) w741) (by kernel_rfl) (fun r747 h748 w749 hM750 => S_fresh (some 1) #[.int .i64 r747] 24 hM750 (by kernel_rfl) (fun g751 w752 hM753 => S_appN 1 0 2 cap730 1 1 24 1 8 (.int .i64 0) [.int .i64 r612, .int .i64 r722] rest731 [.int .i64 r747] hM753 ok733 (by kernel_rfl) (by kernel_rfl) (by omega) (fun g754 cap755 rest756 w757 ok758 hM759 => S_val (.slice (some ⟨g754, 0, none⟩) 3 cap755) (by kernel_rfl) (S_nil (R_inBlock (R_region (S_val (.int .i64 2) (by kernel_rfl) (?_))))))))))))
              have HR := hr_lt HR h748
              refine S_val (.int .i64 3) (by kernel_rfl) (S_val (.int .i64 3) (by kernel_rfl) (S_nil (R_inLoop (R_seq (R_seq (R_region (S_val (.int .i64 3) (by kernel_rfl) (S_val (.bool false) (by kernel_rfl) (S_nil (R_no (by kernel_rfl) (R_exit rfl (?_))))))))))))
              refine R_seq (R_drawF 10 (by kernel_rfl) (fun F760 U761 hL762 => F_val (.slice (some ⟨g754, 0, none⟩) 3 cap755) (fun _ => by kernel_rfl) (F_val (.pointer (some ⟨g754, 0, none⟩)) (fun _ => by kernel_rfl) (F_load 0 0 (.int .i64 r612) hM759 (by kernel_rfl) (F_val (.slice (some ⟨g754, 0, none⟩) 3 cap755) (fun _ => by kernel_rfl) (F_val (.pointer (some ⟨g754, 1, none⟩)) (fun _ => by kernel_rfl) (F_load 0 1 (.int .i64 r722) hM759 (by kernel_rfl) (F_val (.slice (some ⟨g754, 0, none⟩) 3 cap755) (fun _ => by kernel_rfl) (F_val (.pointer (some ⟨g754, 2, none⟩)) (fun _ => by kernel_rfl) (F_load 0 2 (.int .i64 r747) hM759 (by kernel_rfl) (F_val (.agg #[.int .i64 r612, .int .i64 r722, .int .i64 r747]) (fun _ => by kernel_rfl) (?_))))))))))))
              refine F_nil hM759 hL762 (fun w763 hM764 => S_store 5 0 #[.int .i64 r612, .int .i64 r722, .int .i64 r747] hM764 (by kernel_rfl) (fun w765 hM766 => S_nil (?_)))
              refine R_ret hM766 rfl (.cons (.cell _ _ 5 0 (.agg #[.int .i64 r612, .int .i64 r722, .int .i64 r747]) (by kernel_rfl)) .nil) rfl ?_
              exact ⟨congrArg Ending.returned HR, hM766.below⟩
            · refine S_val (.bool false) (by kernel_rfl) (S_nil (R_no (by kernel_rfl) (R_skip (R_region (S_val (.slice (some ⟨g729, 0, none⟩) 2 cap730) (by kernel_rfl) (S_val (.int .u64 r739.1) (by kernel_rfl) (S_val (.slice (some ⟨g37, 0, none⟩) 3 3) (by kernel_rfl) (S_val (.int .i64 2) (by kernel_rfl) (S_val (.pointer (some ⟨g37, 2, none⟩)) (by kernel_rfl) (S_load 3 2 (.int .i64 r14) hM742 (by kernel_rfl) (S_val (.bool true) (kdT' c743 (by kernel_rfl)) (?_))))))))))))
              have HR := hr_neg HR c744
              refine S_call (nearV r739.1 true false) (fun r : Int => .int .i64 r) hM742 (c_Near r739.1 true false ((tr (P := fun r : Int × Int => (InU r.1 ∧ InU r.2)) h740 (dvq_U ((tr (P := fun r : Int => InU r) h736 (absU_InU ((tr (P := fun r : Int => InI r) h15 (clip_I p.2.2)).out))).out) ((tr (P := fun r : Int => InU r) h31 (rootU_U (wr_u64 h29) (show InU 0 from by unfold InU; omega))).out) (by subst_vars; first | exact tow_lt p _ (.inl rfl) (by assumption) | exact tow_lt p _ (.inr (.inl rfl)) (by assumption) | exact tow_lt p _ (.inr (.inr rfl)) (by assumption)))).out.1) w741) (by kernel_rfl) (fun r767 h768 w769 hM770 => S_fresh (some 1) #[.int .i64 r767] 24 hM770 (by kernel_rfl) (fun g771 w772 hM773 => S_appN 1 0 2 cap730 1 1 24 1 8 (.int .i64 0) [.int .i64 r612, .int .i64 r722] rest731 [.int .i64 r767] hM773 ok733 (by kernel_rfl) (by kernel_rfl) (by omega) (fun g774 cap775 rest776 w777 ok778 hM779 => S_val (.slice (some ⟨g774, 0, none⟩) 3 cap775) (by kernel_rfl) (S_nil (R_inBlock (R_region (S_val (.int .i64 2) (by kernel_rfl) (S_val (.int .i64 3) (by kernel_rfl) (S_val (.int .i64 3) (by kernel_rfl) (S_nil (R_inLoop (?_))))))))))))
              have HR := hr_lt HR h768
              refine R_seq (R_seq (R_region (S_val (.int .i64 3) (by kernel_rfl) (S_val (.bool false) (by kernel_rfl) (S_nil (R_no (by kernel_rfl) (R_exit rfl (R_seq (R_drawF 10 (by kernel_rfl) (fun F780 U781 hL782 => F_val (.slice (some ⟨g774, 0, none⟩) 3 cap775) (fun _ => by kernel_rfl) (F_val (.pointer (some ⟨g774, 0, none⟩)) (fun _ => by kernel_rfl) (?_))))))))))))
              refine F_load 0 0 (.int .i64 r612) hM779 (by kernel_rfl) (F_val (.slice (some ⟨g774, 0, none⟩) 3 cap775) (fun _ => by kernel_rfl) (F_val (.pointer (some ⟨g774, 1, none⟩)) (fun _ => by kernel_rfl) (F_load 0 1 (.int .i64 r722) hM779 (by kernel_rfl) (F_val (.slice (some ⟨g774, 0, none⟩) 3 cap775) (fun _ => by kernel_rfl) (F_val (.pointer (some ⟨g774, 2, none⟩)) (fun _ => by kernel_rfl) (F_load 0 2 (.int .i64 r767) hM779 (by kernel_rfl) (F_val (.agg #[.int .i64 r612, .int .i64 r722, .int .i64 r767]) (fun _ => by kernel_rfl) (F_nil hM779 hL782 (fun w783 hM784 => S_store 5 0 #[.int .i64 r612, .int .i64 r722, .int .i64 r767] hM784 (by kernel_rfl) (fun w785 hM786 => S_nil (?_)))))))))))
              refine R_ret hM786 rfl (.cons (.cell _ _ 5 0 (.agg #[.int .i64 r612, .int .i64 r722, .int .i64 r767]) (by kernel_rfl)) .nil) rfl ?_
              exact ⟨congrArg Ending.returned HR, hM786.below⟩
          · refine S_val (.bool false) (by kernel_rfl) (S_skip (by kernel_rfl) (S_skip (by kernel_rfl) (S_val (.bool false) (by kernel_rfl) (S_nil (R_no (by kernel_rfl) (R_skip (R_region (S_val (.slice (some ⟨g729, 0, none⟩) 2 cap730) (by kernel_rfl) (S_val (.int .u64 r739.1) (by kernel_rfl) (S_val (.slice (some ⟨g37, 0, none⟩) 3 3) (by kernel_rfl) (S_val (.int .i64 2) (by kernel_rfl) (?_))))))))))))
            have HR := hr_neg HR c743
            refine S_val (.pointer (some ⟨g37, 2, none⟩)) (by kernel_rfl) (S_load 3 2 (.int .i64 r14) hM742 (by kernel_rfl) (S_val (.bool false) (kdF' c743 (by kernel_rfl)) (S_call (nearV r739.1 false false) (fun r : Int => .int .i64 r) hM742 (c_Near r739.1 false false ((tr (P := fun r : Int × Int => (InU r.1 ∧ InU r.2)) h740 (dvq_U ((tr (P := fun r : Int => InU r) h736 (absU_InU ((tr (P := fun r : Int => InI r) h15 (clip_I p.2.2)).out))).out) ((tr (P := fun r : Int => InU r) h31 (rootU_U (wr_u64 h29) (show InU 0 from by unfold InU; omega))).out) (by subst_vars; first | exact tow_lt p _ (.inl rfl) (by assumption) | exact tow_lt p _ (.inr (.inl rfl)) (by assumption) | exact tow_lt p _ (.inr (.inr rfl)) (by assumption)))).out.1) w741) (by kernel_rfl) (fun r787 h788 w789 hM790 => S_fresh (some 1) #[.int .i64 r787] 24 hM790 (by kernel_rfl) (fun g791 w792 hM793 => S_appN 1 0 2 cap730 1 1 24 1 8 (.int .i64 0) [.int .i64 r612, .int .i64 r722] rest731 [.int .i64 r787] hM793 ok733 (by kernel_rfl) (by kernel_rfl) (by omega) (fun g794 cap795 rest796 w797 ok798 hM799 => S_val (.slice (some ⟨g794, 0, none⟩) 3 cap795) (by kernel_rfl) (S_nil (R_inBlock (R_region (S_val (.int .i64 2) (by kernel_rfl) (S_val (.int .i64 3) (by kernel_rfl) (?_))))))))))))
            have HR := hr_lt HR h788
            refine S_val (.int .i64 3) (by kernel_rfl) (S_nil (R_inLoop (R_seq (R_seq (R_region (S_val (.int .i64 3) (by kernel_rfl) (S_val (.bool false) (by kernel_rfl) (S_nil (R_no (by kernel_rfl) (R_exit rfl (R_seq (?_))))))))))))
            refine R_drawF 10 (by kernel_rfl) (fun F800 U801 hL802 => F_val (.slice (some ⟨g794, 0, none⟩) 3 cap795) (fun _ => by kernel_rfl) (F_val (.pointer (some ⟨g794, 0, none⟩)) (fun _ => by kernel_rfl) (F_load 0 0 (.int .i64 r612) hM799 (by kernel_rfl) (F_val (.slice (some ⟨g794, 0, none⟩) 3 cap795) (fun _ => by kernel_rfl) (F_val (.pointer (some ⟨g794, 1, none⟩)) (fun _ => by kernel_rfl) (F_load 0 1 (.int .i64 r722) hM799 (by kernel_rfl) (F_val (.slice (some ⟨g794, 0, none⟩) 3 cap795) (fun _ => by kernel_rfl) (F_val (.pointer (some ⟨g794, 2, none⟩)) (fun _ => by kernel_rfl) (F_load 0 2 (.int .i64 r787) hM799 (by kernel_rfl) (F_val (.agg #[.int .i64 r612, .int .i64 r722, .int .i64 r787]) (fun _ => by kernel_rfl) (F_nil hM799 hL802 (fun w803 hM804 => ?_))))))))))))
            refine S_store 5 0 #[.int .i64 r612, .int .i64 r722, .int .i64 r787] hM804 (by kernel_rfl) (fun w805 hM806 => S_nil (?_))
            refine R_ret hM806 rfl (.cons (.cell _ _ 5 0 (.agg #[.int .i64 r612, .int .i64 r722, .int .i64 r787]) (by kernel_rfl)) .nil) rfl ?_
            exact ⟨congrArg Ending.returned HR, hM806.below⟩
      · refine S_val (.bool false) (by kernel_rfl) (S_skip (by kernel_rfl) (S_skip (by kernel_rfl) (S_val (.bool false) (by kernel_rfl) (S_nil (R_no (by kernel_rfl) (R_skip (R_region (S_val (.slice (some ⟨g619, 0, none⟩) 1 cap620) (by kernel_rfl) (S_val (.int .u64 r629.1) (by kernel_rfl) (S_val (.slice (some ⟨g37, 0, none⟩) 3 3) (by kernel_rfl) (S_val (.int .i64 1) (by kernel_rfl) (?_))))))))))))
        have HR := hr_neg HR c633
        refine S_val (.pointer (some ⟨g37, 1, none⟩)) (by kernel_rfl) (S_load 2 1 (.int .i64 r12) hM632 (by kernel_rfl) (S_val (.bool false) (kdF' c633 (by kernel_rfl)) (S_call (nearV r629.1 false false) (fun r : Int => .int .i64 r) hM632 (c_Near r629.1 false false ((tr (P := fun r : Int × Int => (InU r.1 ∧ InU r.2)) h630 (dvq_U ((tr (P := fun r : Int => InU r) h626 (absU_InU ((tr (P := fun r : Int => InI r) h13 (clip_I p.2.1)).out))).out) ((tr (P := fun r : Int => InU r) h31 (rootU_U (wr_u64 h29) (show InU 0 from by unfold InU; omega))).out) (by subst_vars; first | exact tow_lt p _ (.inl rfl) (by assumption) | exact tow_lt p _ (.inr (.inl rfl)) (by assumption) | exact tow_lt p _ (.inr (.inr rfl)) (by assumption)))).out.1) w631) (by kernel_rfl) (fun r807 h808 w809 hM810 => S_fresh (some 1) #[.int .i64 r807] 24 hM810 (by kernel_rfl) (fun g811 w812 hM813 => S_appN 1 0 1 cap620 1 1 24 1 8 (.int .i64 0) [.int .i64 r612] rest621 [.int .i64 r807] hM813 ok623 (by kernel_rfl) (by kernel_rfl) (by omega) (fun g814 cap815 rest816 w817 ok818 hM819 => S_val (.slice (some ⟨g814, 0, none⟩) 2 cap815) (by kernel_rfl) (S_nil (R_inBlock (R_region (S_val (.int .i64 1) (by kernel_rfl) (S_val (.int .i64 2) (by kernel_rfl) (?_))))))))))))
        have HR := hr_lt HR h808
        refine S_val (.int .i64 2) (by kernel_rfl) (S_nil (R_inLoop (R_seq (R_seq (R_region (S_val (.int .i64 2) (by kernel_rfl) (S_val (.bool true) (by kernel_rfl) (S_nil (R_yes (by kernel_rfl) (R_skip (R_seq (?_))))))))))))
        refine R_block (R_seq (R_region (S_val (.slice (some ⟨g37, 0, none⟩) 3 3) (by kernel_rfl) (S_val (.int .i64 2) (by kernel_rfl) (S_val (.pointer (some ⟨g37, 2, none⟩)) (by kernel_rfl) (S_load 3 2 (.int .i64 r14) hM819 (by kernel_rfl) (S_call (absU r14) (fun r : Int => .int .u64 r) hM819 (c_umbraref02_Size r14 ((tr (P := fun r : Int => InI r) h15 (clip_I p.2.2)).out) w817) (by kernel_rfl) (fun r820 h821 w822 hM823 => S_val (.int .u64 r820) (by kernel_rfl) (S_nil (R_seq (R_region (?_))))))))))))
        have HR := hr_lt HR h821
        refine S_val (.int .u64 r820) (by kernel_rfl) (S_val (.int .u64 r30) (by kernel_rfl) (S_call (dvq r820 r30) (fun r : Int × Int => .tuple #[.int .u64 r.1, .int .u64 r.2]) hM823 (c_Div64 r820 r30 ((tr (P := fun r : Int => InU r) h821 (absU_InU ((tr (P := fun r : Int => InI r) h15 (clip_I p.2.2)).out))).out) ((tr (P := fun r : Int => InU r) h31 (rootU_U (wr_u64 h29) (show InU 0 from by unfold InU; omega))).out) (by subst_vars; first | exact tow_lt p _ (.inl rfl) (by assumption) | exact tow_lt p _ (.inr (.inl rfl)) (by assumption) | exact tow_lt p _ (.inr (.inr rfl)) (by assumption)) w822) (by kernel_rfl) (fun r824 h825 w826 hM827 => S_val (.tuple #[.int .u64 r824.1, .int .u64 r824.2]) (by kernel_rfl) (S_val (.int .u64 r824.1) (by kernel_rfl) (S_val (.int .u64 r824.2) (by kernel_rfl) (S_val (.int .u64 r824.1) (by kernel_rfl) (S_val (.int .u64 r824.2) (by kernel_rfl) (S_nil (R_seq (R_seq (R_region (?_))))))))))))
        have HR := hr_lt HR h825
        refine S_val (.slice (some ⟨g37, 0, none⟩) 3 3) (by kernel_rfl) (S_val (.int .i64 2) (by kernel_rfl) (S_val (.pointer (some ⟨g37, 2, none⟩)) (by kernel_rfl) (S_load 3 2 (.int .i64 r14) hM827 (by kernel_rfl) (?_))))
        refine S_dec (r14 < 0) (by kernel_rfl) (fun c828 => ?_) (fun c828 => ?_)
        · refine S_val (.bool true) (by kernel_rfl) (S_val (.int .u64 r824.2) (by kernel_rfl) (?_))
          have HR := hr_pos HR c828
          refine S_dec (r824.2 > 0) (by kernel_rfl) (fun c829 => ?_) (fun c829 => ?_)
          · refine S_val (.bool true) (by kernel_rfl) (S_nil (R_yes (by kernel_rfl) (R_region (S_val (.int .u64 r824.1) (by kernel_rfl) (S_int (IntKind.u64.wrap (r824.1 + 1)) .u64 (by kernel_rfl) (fun x830 h831 => S_val (.int .u64 x830) (by kernel_rfl) (S_nil (R_region (S_val (.slice (some ⟨g814, 0, none⟩) 2 cap815) (by kernel_rfl) (S_val (.int .u64 x830) (by kernel_rfl) (S_val (.slice (some ⟨g37, 0, none⟩) 3 3) (by kernel_rfl) (?_))))))))))))
            have HR := hr_pos HR c829
            have HR := hr_lt HR h831
            refine S_val (.int .i64 2) (by kernel_rfl) (S_val (.pointer (some ⟨g37, 2, none⟩)) (by kernel_rfl) (S_load 3 2 (.int .i64 r14) hM827 (by kernel_rfl) (S_val (.bool true) (kdT' c828 (by kernel_rfl)) (S_call (nearV x830 true false) (fun r : Int => .int .i64 r) hM827 (c_Near x830 true false (wr_u64 h831) w826) (by kernel_rfl) (fun r832 h833 w834 hM835 => S_fresh (some 1) #[.int .i64 r832] 24 hM835 (by kernel_rfl) (fun g836 w837 hM838 => S_appN 1 0 2 cap815 1 1 24 1 8 (.int .i64 0) [.int .i64 r612, .int .i64 r807] rest816 [.int .i64 r832] hM838 ok818 (by kernel_rfl) (by kernel_rfl) (by omega) (fun g839 cap840 rest841 w842 ok843 hM844 => S_val (.slice (some ⟨g839, 0, none⟩) 3 cap840) (by kernel_rfl) (S_nil (R_inBlock (R_region (S_val (.int .i64 2) (by kernel_rfl) (?_))))))))))))
            have HR := hr_lt HR h833
            refine S_val (.int .i64 3) (by kernel_rfl) (S_val (.int .i64 3) (by kernel_rfl) (S_nil (R_inLoop (R_seq (R_seq (R_region (S_val (.int .i64 3) (by kernel_rfl) (S_val (.bool false) (by kernel_rfl) (S_nil (R_no (by kernel_rfl) (R_exit rfl (?_))))))))))))
            refine R_seq (R_drawF 10 (by kernel_rfl) (fun F845 U846 hL847 => F_val (.slice (some ⟨g839, 0, none⟩) 3 cap840) (fun _ => by kernel_rfl) (F_val (.pointer (some ⟨g839, 0, none⟩)) (fun _ => by kernel_rfl) (F_load 0 0 (.int .i64 r612) hM844 (by kernel_rfl) (F_val (.slice (some ⟨g839, 0, none⟩) 3 cap840) (fun _ => by kernel_rfl) (F_val (.pointer (some ⟨g839, 1, none⟩)) (fun _ => by kernel_rfl) (F_load 0 1 (.int .i64 r807) hM844 (by kernel_rfl) (F_val (.slice (some ⟨g839, 0, none⟩) 3 cap840) (fun _ => by kernel_rfl) (F_val (.pointer (some ⟨g839, 2, none⟩)) (fun _ => by kernel_rfl) (F_load 0 2 (.int .i64 r832) hM844 (by kernel_rfl) (F_val (.agg #[.int .i64 r612, .int .i64 r807, .int .i64 r832]) (fun _ => by kernel_rfl) (?_))))))))))))
            refine F_nil hM844 hL847 (fun w848 hM849 => S_store 5 0 #[.int .i64 r612, .int .i64 r807, .int .i64 r832] hM849 (by kernel_rfl) (fun w850 hM851 => S_nil (?_)))
            refine R_ret hM851 rfl (.cons (.cell _ _ 5 0 (.agg #[.int .i64 r612, .int .i64 r807, .int .i64 r832]) (by kernel_rfl)) .nil) rfl ?_
            exact ⟨congrArg Ending.returned HR, hM851.below⟩
          · refine S_val (.bool false) (by kernel_rfl) (S_nil (R_no (by kernel_rfl) (R_skip (R_region (S_val (.slice (some ⟨g814, 0, none⟩) 2 cap815) (by kernel_rfl) (S_val (.int .u64 r824.1) (by kernel_rfl) (S_val (.slice (some ⟨g37, 0, none⟩) 3 3) (by kernel_rfl) (S_val (.int .i64 2) (by kernel_rfl) (S_val (.pointer (some ⟨g37, 2, none⟩)) (by kernel_rfl) (S_load 3 2 (.int .i64 r14) hM827 (by kernel_rfl) (S_val (.bool true) (kdT' c828 (by kernel_rfl)) (?_))))))))))))
            have HR := hr_neg HR c829
            refine S_call (nearV r824.1 true false) (fun r : Int => .int .i64 r) hM827 (c_Near r824.1 true false ((tr (P := fun r : Int × Int => (InU r.1 ∧ InU r.2)) h825 (dvq_U ((tr (P := fun r : Int => InU r) h821 (absU_InU ((tr (P := fun r : Int => InI r) h15 (clip_I p.2.2)).out))).out) ((tr (P := fun r : Int => InU r) h31 (rootU_U (wr_u64 h29) (show InU 0 from by unfold InU; omega))).out) (by subst_vars; first | exact tow_lt p _ (.inl rfl) (by assumption) | exact tow_lt p _ (.inr (.inl rfl)) (by assumption) | exact tow_lt p _ (.inr (.inr rfl)) (by assumption)))).out.1) w826) (by kernel_rfl) (fun r852 h853 w854 hM855 => S_fresh (some 1) #[.int .i64 r852] 24 hM855 (by kernel_rfl) (fun g856 w857 hM858 => S_appN 1 0 2 cap815 1 1 24 1 8 (.int .i64 0) [.int .i64 r612, .int .i64 r807] rest816 [.int .i64 r852] hM858 ok818 (by kernel_rfl) (by kernel_rfl) (by omega) (fun g859 cap860 rest861 w862 ok863 hM864 => S_val (.slice (some ⟨g859, 0, none⟩) 3 cap860) (by kernel_rfl) (S_nil (R_inBlock (R_region (S_val (.int .i64 2) (by kernel_rfl) (S_val (.int .i64 3) (by kernel_rfl) (S_val (.int .i64 3) (by kernel_rfl) (S_nil (R_inLoop (?_))))))))))))
            have HR := hr_lt HR h853
            refine R_seq (R_seq (R_region (S_val (.int .i64 3) (by kernel_rfl) (S_val (.bool false) (by kernel_rfl) (S_nil (R_no (by kernel_rfl) (R_exit rfl (R_seq (R_drawF 10 (by kernel_rfl) (fun F865 U866 hL867 => F_val (.slice (some ⟨g859, 0, none⟩) 3 cap860) (fun _ => by kernel_rfl) (F_val (.pointer (some ⟨g859, 0, none⟩)) (fun _ => by kernel_rfl) (?_))))))))))))
            refine F_load 0 0 (.int .i64 r612) hM864 (by kernel_rfl) (F_val (.slice (some ⟨g859, 0, none⟩) 3 cap860) (fun _ => by kernel_rfl) (F_val (.pointer (some ⟨g859, 1, none⟩)) (fun _ => by kernel_rfl) (F_load 0 1 (.int .i64 r807) hM864 (by kernel_rfl) (F_val (.slice (some ⟨g859, 0, none⟩) 3 cap860) (fun _ => by kernel_rfl) (F_val (.pointer (some ⟨g859, 2, none⟩)) (fun _ => by kernel_rfl) (F_load 0 2 (.int .i64 r852) hM864 (by kernel_rfl) (F_val (.agg #[.int .i64 r612, .int .i64 r807, .int .i64 r852]) (fun _ => by kernel_rfl) (F_nil hM864 hL867 (fun w868 hM869 => S_store 5 0 #[.int .i64 r612, .int .i64 r807, .int .i64 r852] hM869 (by kernel_rfl) (fun w870 hM871 => S_nil (?_)))))))))))
            refine R_ret hM871 rfl (.cons (.cell _ _ 5 0 (.agg #[.int .i64 r612, .int .i64 r807, .int .i64 r852]) (by kernel_rfl)) .nil) rfl ?_
            exact ⟨congrArg Ending.returned HR, hM871.below⟩
        · refine S_val (.bool false) (by kernel_rfl) (S_skip (by kernel_rfl) (S_skip (by kernel_rfl) (S_val (.bool false) (by kernel_rfl) (S_nil (R_no (by kernel_rfl) (R_skip (R_region (S_val (.slice (some ⟨g814, 0, none⟩) 2 cap815) (by kernel_rfl) (S_val (.int .u64 r824.1) (by kernel_rfl) (S_val (.slice (some ⟨g37, 0, none⟩) 3 3) (by kernel_rfl) (S_val (.int .i64 2) (by kernel_rfl) (?_))))))))))))
          have HR := hr_neg HR c828
          refine S_val (.pointer (some ⟨g37, 2, none⟩)) (by kernel_rfl) (S_load 3 2 (.int .i64 r14) hM827 (by kernel_rfl) (S_val (.bool false) (kdF' c828 (by kernel_rfl)) (S_call (nearV r824.1 false false) (fun r : Int => .int .i64 r) hM827 (c_Near r824.1 false false ((tr (P := fun r : Int × Int => (InU r.1 ∧ InU r.2)) h825 (dvq_U ((tr (P := fun r : Int => InU r) h821 (absU_InU ((tr (P := fun r : Int => InI r) h15 (clip_I p.2.2)).out))).out) ((tr (P := fun r : Int => InU r) h31 (rootU_U (wr_u64 h29) (show InU 0 from by unfold InU; omega))).out) (by subst_vars; first | exact tow_lt p _ (.inl rfl) (by assumption) | exact tow_lt p _ (.inr (.inl rfl)) (by assumption) | exact tow_lt p _ (.inr (.inr rfl)) (by assumption)))).out.1) w826) (by kernel_rfl) (fun r872 h873 w874 hM875 => S_fresh (some 1) #[.int .i64 r872] 24 hM875 (by kernel_rfl) (fun g876 w877 hM878 => S_appN 1 0 2 cap815 1 1 24 1 8 (.int .i64 0) [.int .i64 r612, .int .i64 r807] rest816 [.int .i64 r872] hM878 ok818 (by kernel_rfl) (by kernel_rfl) (by omega) (fun g879 cap880 rest881 w882 ok883 hM884 => S_val (.slice (some ⟨g879, 0, none⟩) 3 cap880) (by kernel_rfl) (S_nil (R_inBlock (R_region (S_val (.int .i64 2) (by kernel_rfl) (S_val (.int .i64 3) (by kernel_rfl) (?_))))))))))))
          have HR := hr_lt HR h873
          refine S_val (.int .i64 3) (by kernel_rfl) (S_nil (R_inLoop (R_seq (R_seq (R_region (S_val (.int .i64 3) (by kernel_rfl) (S_val (.bool false) (by kernel_rfl) (S_nil (R_no (by kernel_rfl) (R_exit rfl (R_seq (?_))))))))))))
          refine R_drawF 10 (by kernel_rfl) (fun F885 U886 hL887 => F_val (.slice (some ⟨g879, 0, none⟩) 3 cap880) (fun _ => by kernel_rfl) (F_val (.pointer (some ⟨g879, 0, none⟩)) (fun _ => by kernel_rfl) (F_load 0 0 (.int .i64 r612) hM884 (by kernel_rfl) (F_val (.slice (some ⟨g879, 0, none⟩) 3 cap880) (fun _ => by kernel_rfl) (F_val (.pointer (some ⟨g879, 1, none⟩)) (fun _ => by kernel_rfl) (F_load 0 1 (.int .i64 r807) hM884 (by kernel_rfl) (F_val (.slice (some ⟨g879, 0, none⟩) 3 cap880) (fun _ => by kernel_rfl) (F_val (.pointer (some ⟨g879, 2, none⟩)) (fun _ => by kernel_rfl) (F_load 0 2 (.int .i64 r872) hM884 (by kernel_rfl) (F_val (.agg #[.int .i64 r612, .int .i64 r807, .int .i64 r872]) (fun _ => by kernel_rfl) (F_nil hM884 hL887 (fun w888 hM889 => ?_))))))))))))
          refine S_store 5 0 #[.int .i64 r612, .int .i64 r807, .int .i64 r872] hM889 (by kernel_rfl) (fun w890 hM891 => S_nil (?_))
          refine R_ret hM891 rfl (.cons (.cell _ _ 5 0 (.agg #[.int .i64 r612, .int .i64 r807, .int .i64 r872]) (by kernel_rfl)) .nil) rfl ?_
          exact ⟨congrArg Ending.returned HR, hM891.below⟩

end Go.Proofs.Ytjhnkpapbjkbcaa

namespace Go.Proofs.Ytjhnkpapbjkbcaa
open Go.RowKit Go.Sort
set_option linter.unusedVariables false
set_option linter.unusedSimpArgs false

theorem nearV_f {s : Int} (h : s < 9223372036854775808) : nearV s false false = s ∧ nearV s true false = -s := by
  unfold nearV
  simp
  omega
theorem tow3 (p : T3) (n : Int) (hn : n = clip p.1 ∨ n = clip p.2.1 ∨ n = clip p.2.2) (h : ¬ towR p = 0) :
    (n < 0 → (dvq (absU n) (towR p)).2 > 0 → nearV (IntKind.u64.wrap ((dvq (absU n) (towR p)).1 + 1)) true false = n * 18446744073709551616 / vroot p) ∧
    (n < 0 → ¬ (dvq (absU n) (towR p)).2 > 0 → nearV (dvq (absU n) (towR p)).1 true false = n * 18446744073709551616 / vroot p) ∧
    (¬ n < 0 → nearV (dvq (absU n) (towR p)).1 false false = n * 18446744073709551616 / vroot p) := by
  rw [towR_eq] at *
  have hb := vroot_bd p
  have hq := vtow_parts p h n hn
  have hR : 0 < vroot p := by omega
  generalize vroot p = R at *
  have key : n < 0 → (dvq (absU n) R).1 = (-n * 18446744073709551616) / R ∧ (dvq (absU n) R).2 = (-n * 18446744073709551616) % R := by
    intro hn0
    unfold dvq absU
    rw [if_pos hn0, Int.add_zero]
    exact ⟨rfl, rfl⟩
  have key2 : ¬ n < 0 → (dvq (absU n) R).1 = n * 18446744073709551616 / R := by
    intro hn0
    unfold dvq absU
    rw [if_neg hn0, Int.add_zero]
  have d1 := Int.emod_add_mul_ediv (n * 18446744073709551616) R
  have d2 := Int.emod_add_mul_ediv (-n * 18446744073709551616) R
  have e1 := Int.emod_nonneg (n * 18446744073709551616) (show R ≠ 0 by omega)
  have e2 := Int.emod_lt_of_pos (n * 18446744073709551616) hR
  have e3 := Int.emod_nonneg (-n * 18446744073709551616) (show R ≠ 0 by omega)
  have e4 := Int.emod_lt_of_pos (-n * 18446744073709551616) hR
  generalize n * 18446744073709551616 / R = Q at *
  generalize -n * 18446744073709551616 / R = Q' at *
  generalize n * 18446744073709551616 % R = m at *
  generalize -n * 18446744073709551616 % R = m' at *
  have hs : R * (Q + Q') = -(m + m') := by rw [Int.mul_add]; omega
  refine ⟨fun hn0 h2 => ?_, fun hn0 h2 => ?_, fun hn0 => ?_⟩
  · rw [(key hn0).1]
    rw [(key hn0).2] at h2
    have hk : Q + Q' = -1 := by
      have a1 : R * (Q + Q') < 0 := by omega
      have a2 : R * (Q + Q') > R * (-2) := by omega
      have a3 := Int.lt_of_mul_lt_mul_left a2 (by omega)
      have a4 : Q + Q' < 0 := Int.lt_of_mul_lt_mul_left (show R * (Q + Q') < R * 0 by omega) (by omega)
      omega
    have hQ : Q < 0 := Int.lt_of_mul_lt_mul_left (show R * Q < R * 0 by omega) (by omega)
    rw [IntKind.wrap_u64, show (Q' + 1) % 18446744073709551616 = -Q by omega, (nearV_f (by omega)).2]
    omega
  · rw [(key hn0).1]
    rw [(key hn0).2] at h2
    have hm : m' = 0 := by omega
    have hk : Q + Q' = 0 := by
      have a2 : R * (Q + Q') > R * (-1) := by omega
      have a3 := Int.lt_of_mul_lt_mul_left a2 (by omega)
      have a4 : Q + Q' < 1 := Int.lt_of_mul_lt_mul_left (show R * (Q + Q') < R * 1 by omega) (by omega)
      omega
    rw [(nearV_f (by omega)).2]
    omega
  · rw [key2 hn0, (nearV_f (by omega)).1]
theorem sToward_eq (p : T3) (hp : InV p) : s_umbraref03_Toward p = vtow p := by
  unfold s_umbraref03_Toward
  simp only [lt]
  have e : rootU (IntKind.u64.wrap (IntKind.i64.wrap (IntKind.i64.wrap (IntKind.i64.wrap (clip p.1 * clip p.1) + IntKind.i64.wrap (clip p.2.1 * clip p.2.1)) + IntKind.i64.wrap (clip p.2.2 * clip p.2.2)))) 0 = towR p := rfl
  simp only [e]
  by_cases h : towR p = 0
  · rw [if_pos h]
    unfold vtow
    rw [if_pos (by rw [← towR_eq]; exact h)]
    rfl
  · rw [if_neg h]
    obtain ⟨x1, x2, x3⟩ := tow3 p _ (.inl rfl) h
    obtain ⟨y1, y2, y3⟩ := tow3 p _ (.inr (.inl rfl)) h
    obtain ⟨z1, z2, z3⟩ := tow3 p _ (.inr (.inr rfl)) h
    have ev : vtow p = (clip p.1 * 18446744073709551616 / vroot p, clip p.2.1 * 18446744073709551616 / vroot p, clip p.2.2 * 18446744073709551616 / vroot p) := by
      unfold vtow
      rw [if_neg (by rw [← towR_eq]; exact h)]
    rw [ev]
    clear e hp ev h
    generalize clip p.1 * 18446744073709551616 / vroot p = X at *
    generalize clip p.2.1 * 18446744073709551616 / vroot p = Y at *
    generalize clip p.2.2 * 18446744073709551616 / vroot p = Z at *
    generalize dvq (absU (clip p.1)) (towR p) = d1 at *
    generalize dvq (absU (clip p.2.1)) (towR p) = d2 at *
    generalize dvq (absU (clip p.2.2)) (towR p) = d3 at *
    generalize clip p.1 = a at *
    generalize clip p.2.1 = b at *
    generalize clip p.2.2 = c at *
    repeat' split
    all_goals (simp only [not_false_eq_true, forall_const, *] at x1 x2 x3 y1 y2 y3 z1 z2 z3)
    all_goals (first | rw [x1] | rw [x2] | rw [x3])
    all_goals (first | rw [y1] | rw [y2] | rw [y3])
    all_goals (first | rw [z1] | rw [z2] | rw [z3])
theorem r3Toward (p : T3) (hp : InV p) (w : World) : Calls Try.prog 62 #[.agg #[.int .i64 p.1, .int .i64 p.2.1, .int .i64 p.2.2]] w (Ret (.agg #[.int .i64 (vtow p).1, .int .i64 (vtow p).2.1, .int .i64 (vtow p).2.2]) w) := by
  have h := w_umbraref03_Toward p hp w
  rw [sToward_eq p hp] at h
  exact h
end Go.Proofs.Ytjhnkpapbjkbcaa
