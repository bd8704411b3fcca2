/- Layer 1: WideRoots, WideMakes, WideOrders, WideDivides, WideSums, WideProducts: walks. -/
import Derived.Test.YtlpnklcnheafoaaN9
import Derived.Test.YtlpnklcnheafoaaGoC
import Derived.Test.YtlpnklcnheafoaaMV
import Derived.Test.YtlpnklcnheafoaaWalkN
import Derived.Test.YtlpnklcnheafoaaWalkK
import Derived.Test.YtlpnklcnheafoaaWalkS
import Derived.Test.YtlpnklcnheafoaaWalkH
import Derived.Test.YtlpnklcnheafoaaGoK
import Derived.Test.YtlpnklcnheafoaaGoF
import Derived.Test.YtlpnklcnheafoaaMG
import Derived.Test.YtlpnklcnheafoaaLaw1
namespace Go.Proofs.Ytlpnklcnheafoaa
open Go.RowKit Go.Sort
set_option linter.unusedVariables false
set_option linter.unusedSimpArgs false

theorem wide_of {hi lo : Int} (h1 : Fits .i64 hi) (h2 : Fits .u64 lo) : ∃ x, hi = wHi x ∧ lo = wLo x ∧ InW x := by
  have a := fit_i64 h1
  have b := fit_u64 h2
  unfold InI at a
  unfold InU at b
  refine ⟨hi * 18446744073709551616 + lo, ?_, ?_, ?_⟩
  · unfold wHi; omega
  · unfold wLo; omega
  · unfold InW; omega
def works01 : Bool := true
theorem c_works01 (w : World) : Calls Try.prog 16 #[] w (Ret (.bool (works01)) w) := works1 w
theorem root_rb {x : Int} (h : -170141183460469231731687303715884105728 ≤ x ∧ x ≤ 170141183460469231731687303715884105728) : 0 ≤ rootI x ∧ rootI x < 18446744073709551616 := by
  unfold rootI
  split
  · omega
  · have := sqN_root (x := x) (by omega) (by omega)
    exact ⟨this.1.1, this.2⟩
theorem p2le {n : Int} (h : n ≤ 200) : 1 ≤ (2 : Int) ^ Int.toNat n ∧ (2 : Int) ^ Int.toNat n ≤ 1606938044258990275541962092341162602522202993782792835301376 := by
  refine ⟨by have := p2pos (Int.toNat n); omega, ?_⟩
  have e : (1606938044258990275541962092341162602522202993782792835301376 : Int) = 2 ^ 200 := by decide +kernel
  rw [e]
  have : (2 : Nat) ^ Int.toNat n ≤ 2 ^ 200 := Nat.pow_le_pow_right (by decide) (by omega)
  have := Int.ofNat_le.2 this
  rw [Int.natCast_pow, Int.natCast_pow] at this
  exact this

def e_umbralaw01_WideRoots (r : Bool) : Value := .bool r
def s_umbralaw01_WideRoots (a : Int) : Bool :=
  lt (a) fun x4 =>
  lt (rootI x4) fun x14 =>
  lt (toW x14) fun r24 =>
  if r24.2 = true then
    lt (sqN a) fun r59 =>
    if r59 = wLo r24.1 then
      lt (works01 ) fun r62 =>
      if r62 = true then
        true
      else
        false
    else
      false
  else
    lt (sqN a) fun r39 =>
    if r39 = wLo r24.1 then
      lt (works01 ) fun r42 =>
      if r42 = true then
        true
      else
        false
    else
      false
set_option maxRecDepth 100000 in
set_option maxHeartbeats 4000000 in
theorem w_umbralaw01_WideRoots (a : Int) (h_a : InW a) (w : World) : Calls Try.prog 3 #[.agg #[.int .i64 (wHi a), .int .u64 (wLo a)]] w (Ret (e_umbralaw01_WideRoots (s_umbralaw01_WideRoots a)) w) := by
  obtain ⟨R, HR⟩ : ∃ R, e_umbralaw01_WideRoots (s_umbralaw01_WideRoots a) = R := ⟨_, rfl⟩
  rw [HR]
  unfold s_umbralaw01_WideRoots at HR
  have hM0 := St.startN (w := w) [] ents0
  refine calls_run Try.func3 rfl ?_
  have i_a := h_a; unfold InW at i_a
  refine R_seq (R_region (S_fresh none #[.int .i64 (wHi a), .int .u64 (wLo a)] 24 hM0 (by kernel_rfl) (fun g1 w2 hM3 => S_val (.bool false) (by kernel_rfl) (S_nil (R_seq (R_region (S_load 0 0 (.agg #[.int .i64 (wHi a), .int .u64 (wLo a)]) hM3 (by kernel_rfl) (S_callB (a) [] hM3 (k_Wide a h_a w2) sub0 (by kernel_rfl) (fun x4 h5 b6 l7 hn8 A9 cap10 hc11 w12 hM13 => S_callB (rootI x4) [(A9, nv l7)] hM13 (k_Root b6 l7 x4 hn8 A9 (List.length l7) cap10 rfl hc11 (by omega) w12 (hM13.ent 0 rfl)) (subc 0 rfl sub0) (by kernel_rfl) (fun x14 h15 b16 l17 hn18 A19 cap20 hc21 w22 hM23 => ?_))))))))))
  have HR := hr_lt HR h5
  have HR := hr_lt HR h15
  have rb_ := root_rb (x := x4) (by omega)
  rw [h15] at rb_
  refine S_call (toW x14) (fun r : Int × Bool => .tuple #[.agg #[.int .i64 (wHi r.1), .int .u64 (wLo r.1)], .bool r.2]) hM23 (k_ToWide b16 l17 x14 hn18 A19 (List.length l17) cap20 rfl hc21 (by omega) w22 (hM23.ent 0 rfl)) (by kernel_rfl) (fun r24 h25 w26 hM27 => ?_)
  have HR := hr_lt HR h25
  obtain ⟨r28, b30⟩ := r24
  cases b30
  · refine S_val (.tuple #[.agg #[.int .i64 (wHi r28), .int .u64 (wLo r28)], .bool false]) (by kernel_rfl) (S_val (.agg #[.int .i64 (wHi r28), .int .u64 (wLo r28)]) (by kernel_rfl) (S_val (.bool false) (by kernel_rfl) (S_fresh none #[.int .i64 0, .int .u64 0] 24 hM27 (by kernel_rfl) (fun g31 w32 hM33 => S_store 0 0 #[.int .i64 (wHi r28), .int .u64 (wLo r28)] hM33 (by kernel_rfl) (fun w34 hM35 => S_val (.bool false) (by kernel_rfl) (S_nil (R_seq (R_drawF 9 (by kernel_rfl) (fun F36 U37 hL38 => F_load 1 0 (.agg #[.int .i64 (wHi a), .int .u64 (wLo a)]) hM35 (by kernel_rfl) (F_call (sqN a) (fun r : Int => .int .u64 r) hM35 hL38 (fun w' hM' => wSqrt a h_a w') (by kernel_rfl) (fun _ => by kernel_rfl) (fun r39 h40 => F_val (.pointer (some ⟨g31, 1, none⟩)) (fun _ => by kernel_rfl) (?_))))))))))))
    have HR := hr_neg HR Bool.false_ne_true
    have HR := hr_lt HR h40
    refine F_load 0 1 (.int .u64 (wLo r28)) hM35 (by kernel_rfl) (?_)
    refine F_dec (r39 = wLo r28) (fun _ => by kernel_rfl) (fun c41 => ?_) (fun c41 => ?_)
    · refine F_val (.bool true) (fun _ => by kernel_rfl) (F_call (works01 ) (fun r : Bool => .bool r) hM35 hL38 (fun w' hM' => c_works01  w') (by kernel_rfl) (fun _ => by kernel_rfl) (fun r42 h43 => ?_))
      have HR := hr_pos HR c41
      have HR := hr_lt HR h43
      cases r42
      · refine F_val (.bool false) (fun _ => by kernel_rfl) (F_val (.bool false) (fun _ => by kernel_rfl) (F_nil hM35 hL38 (fun w44 hM45 => S_nil (?_))))
        have HR := hr_neg HR Bool.false_ne_true
        refine R_ret hM45 rfl (.cons (.tmp _ (.bool false) (by kernel_rfl)) .nil) rfl ?_
        exact ⟨congrArg Ending.returned HR, hM45.below⟩
      · refine F_val (.bool true) (fun _ => by kernel_rfl) (F_val (.bool true) (fun _ => by kernel_rfl) (F_nil hM35 hL38 (fun w46 hM47 => S_nil (?_))))
        have HR := hr_pos HR rfl
        refine R_ret hM47 rfl (.cons (.tmp _ (.bool true) (by kernel_rfl)) .nil) rfl ?_
        exact ⟨congrArg Ending.returned HR, hM47.below⟩
    · refine F_val (.bool false) (fun _ => by kernel_rfl) (F_skip (by kernel_rfl) (F_val (.bool false) (fun _ => by kernel_rfl) (F_val (.bool false) (fun _ => by kernel_rfl) (F_nil hM35 hL38 (fun w49 hM50 => S_nil (?_))))))
      have HR := hr_neg HR c41
      refine R_ret hM50 rfl (.cons (.tmp _ (.bool false) (by kernel_rfl)) .nil) rfl ?_
      exact ⟨congrArg Ending.returned HR, hM50.below⟩
  · refine S_val (.tuple #[.agg #[.int .i64 (wHi r28), .int .u64 (wLo r28)], .bool true]) (by kernel_rfl) (S_val (.agg #[.int .i64 (wHi r28), .int .u64 (wLo r28)]) (by kernel_rfl) (S_val (.bool true) (by kernel_rfl) (S_fresh none #[.int .i64 0, .int .u64 0] 24 hM27 (by kernel_rfl) (fun g51 w52 hM53 => S_store 0 0 #[.int .i64 (wHi r28), .int .u64 (wLo r28)] hM53 (by kernel_rfl) (fun w54 hM55 => S_val (.bool true) (by kernel_rfl) (S_nil (R_seq (R_drawF 9 (by kernel_rfl) (fun F56 U57 hL58 => F_load 1 0 (.agg #[.int .i64 (wHi a), .int .u64 (wLo a)]) hM55 (by kernel_rfl) (F_call (sqN a) (fun r : Int => .int .u64 r) hM55 hL58 (fun w' hM' => wSqrt a h_a w') (by kernel_rfl) (fun _ => by kernel_rfl) (fun r59 h60 => F_val (.pointer (some ⟨g51, 1, none⟩)) (fun _ => by kernel_rfl) (?_))))))))))))
    have HR := hr_pos HR rfl
    have HR := hr_lt HR h60
    refine F_load 0 1 (.int .u64 (wLo r28)) hM55 (by kernel_rfl) (?_)
    refine F_dec (r59 = wLo r28) (fun _ => by kernel_rfl) (fun c61 => ?_) (fun c61 => ?_)
    · refine F_val (.bool true) (fun _ => by kernel_rfl) (F_call (works01 ) (fun r : Bool => .bool r) hM55 hL58 (fun w' hM' => c_works01  w') (by kernel_rfl) (fun _ => by kernel_rfl) (fun r62 h63 => ?_))
      have HR := hr_pos HR c61
      have HR := hr_lt HR h63
      cases r62
      · refine F_val (.bool false) (fun _ => by kernel_rfl) (F_val (.bool false) (fun _ => by kernel_rfl) (F_nil hM55 hL58 (fun w64 hM65 => S_nil (?_))))
        have HR := hr_neg HR Bool.false_ne_true
        refine R_ret hM65 rfl (.cons (.tmp _ (.bool false) (by kernel_rfl)) .nil) rfl ?_
        exact ⟨congrArg Ending.returned HR, hM65.below⟩
      · refine F_val (.bool true) (fun _ => by kernel_rfl) (F_val (.bool true) (fun _ => by kernel_rfl) (F_nil hM55 hL58 (fun w66 hM67 => S_nil (?_))))
        have HR := hr_pos HR rfl
        refine R_ret hM67 rfl (.cons (.tmp _ (.bool true) (by kernel_rfl)) .nil) rfl ?_
        exact ⟨congrArg Ending.returned HR, hM67.below⟩
    · refine F_val (.bool false) (fun _ => by kernel_rfl) (F_skip (by kernel_rfl) (F_val (.bool false) (fun _ => by kernel_rfl) (F_val (.bool false) (fun _ => by kernel_rfl) (F_nil hM55 hL58 (fun w69 hM70 => S_nil (?_))))))
      have HR := hr_neg HR c61
      refine R_ret hM70 rfl (.cons (.tmp _ (.bool false) (by kernel_rfl)) .nil) rfl ?_
      exact ⟨congrArg Ending.returned HR, hM70.below⟩

def e_umbralaw01_WideMakes (r : Bool) : Value := .bool r
def s_umbralaw01_WideMakes (n : Int) (a : Int) : Bool :=
  lt (n) fun x4 =>
  lt (toW x4) fun r14 =>
  if r14.2 = true then
    lt (wint a) fun r137 =>
    if r137.2 = true then
      lt (a) fun x193 =>
      lt (toI x193) fun r203 =>
      if r203.2 = true then
        lt (wof n) fun r226 =>
        if (r226 : Int) = r14.1 then
          if r137.1 = r203.1 then
            lt (works01 ) fun r230 =>
            if r230 = true then
              true
            else
              false
          else
            false
        else
          false
      else
        lt (wof n) fun r213 =>
        if (r213 : Int) = r14.1 then
          if r137.1 = r203.1 then
            false
          else
            false
        else
          false
    else
      lt (a) fun x144 =>
      lt (toI x144) fun r154 =>
      if r154.2 = true then
        lt (wof n) fun r182 =>
        if (r182 : Int) = r14.1 then
          if r137.1 = r154.1 then
            false
          else
            false
        else
          false
      else
        lt (wof n) fun r164 =>
        if (r164 : Int) = r14.1 then
          if r137.1 = r154.1 then
            lt (works01 ) fun r168 =>
            if r168 = true then
              true
            else
              false
          else
            false
        else
          false
  else
    lt (wint a) fun r26 =>
    if r26.2 = true then
      lt (a) fun x82 =>
      lt (toI x82) fun r92 =>
      if r92.2 = true then
        lt (wof n) fun r115 =>
        if (r115 : Int) = r14.1 then
          if r26.1 = r92.1 then
            lt (works01 ) fun r119 =>
            if r119 = true then
              true
            else
              false
          else
            false
        else
          false
      else
        lt (wof n) fun r102 =>
        if (r102 : Int) = r14.1 then
          if r26.1 = r92.1 then
            false
          else
            false
        else
          false
    else
      lt (a) fun x33 =>
      lt (toI x33) fun r43 =>
      if r43.2 = true then
        lt (wof n) fun r71 =>
        if (r71 : Int) = r14.1 then
          if r26.1 = r43.1 then
            false
          else
            false
        else
          false
      else
        lt (wof n) fun r53 =>
        if (r53 : Int) = r14.1 then
          if r26.1 = r43.1 then
            lt (works01 ) fun r57 =>
            if r57 = true then
              true
            else
              false
          else
            false
        else
          false
set_option maxRecDepth 100000 in
set_option maxHeartbeats 4000000 in
theorem w_umbralaw01_WideMakes (n : Int) (a : Int) (h_n : InI n) (h_a : InW a) (w : World) : Calls Try.prog 5 #[.int .i64 n, .agg #[.int .i64 (wHi a), .int .u64 (wLo a)]] w (Ret (e_umbralaw01_WideMakes (s_umbralaw01_WideMakes n a)) w) := by
  obtain ⟨R, HR⟩ : ∃ R, e_umbralaw01_WideMakes (s_umbralaw01_WideMakes n a) = R := ⟨_, rfl⟩
  rw [HR]
  unfold s_umbralaw01_WideMakes at HR
  have hM0 := St.startN (w := w) [] ents0
  refine calls_run Try.func5 rfl ?_
  have i_a := h_a; unfold InW at i_a
  have i_n := h_n; unfold InI at i_n
  refine R_seq (R_region (S_fresh none #[.int .i64 (wHi a), .int .u64 (wLo a)] 24 hM0 (by kernel_rfl) (fun g1 w2 hM3 => S_val (.bool false) (by kernel_rfl) (S_nil (R_seq (R_region (S_val (.int .i64 n) (by kernel_rfl) (S_callB (n) [] hM3 (k_Of n h_n w2) sub0 (by kernel_rfl) (fun x4 h5 b6 l7 hn8 A9 cap10 hc11 w12 hM13 => S_call (toW x4) (fun r : Int × Bool => .tuple #[.agg #[.int .i64 (wHi r.1), .int .u64 (wLo r.1)], .bool r.2]) hM13 (k_ToWide b6 l7 x4 hn8 A9 (List.length l7) cap10 rfl hc11 (by omega) w12 (hM13.ent 0 rfl)) (by kernel_rfl) (fun r14 h15 w16 hM17 => ?_))))))))))
  have HR := hr_lt HR h5
  have HR := hr_lt HR h15
  obtain ⟨r18, b20⟩ := r14
  cases b20
  · refine S_val (.tuple #[.agg #[.int .i64 (wHi r18), .int .u64 (wLo r18)], .bool false]) (by kernel_rfl) (S_val (.agg #[.int .i64 (wHi r18), .int .u64 (wLo r18)]) (by kernel_rfl) (S_val (.bool false) (by kernel_rfl) (S_fresh none #[.int .i64 0, .int .u64 0] 24 hM17 (by kernel_rfl) (fun g21 w22 hM23 => S_store 0 0 #[.int .i64 (wHi r18), .int .u64 (wLo r18)] hM23 (by kernel_rfl) (fun w24 hM25 => S_val (.bool false) (by kernel_rfl) (S_nil (R_seq (R_region (S_load 1 0 (.agg #[.int .i64 (wHi a), .int .u64 (wLo a)]) hM25 (by kernel_rfl) (S_call (wint a) (fun r : Int × Bool => .tuple #[.int .i64 r.1, .bool r.2]) hM25 (c_wide_Int a h_a w24) (by kernel_rfl) (fun r26 h27 w28 hM29 => ?_)))))))))))
    have HR := hr_neg HR Bool.false_ne_true
    have HR := hr_lt HR h27
    obtain ⟨r30, b32⟩ := r26
    cases b32
    · refine S_val (.tuple #[.int .i64 r30, .bool false]) (by kernel_rfl) (S_val (.int .i64 r30) (by kernel_rfl) (S_val (.bool false) (by kernel_rfl) (S_val (.int .i64 r30) (by kernel_rfl) (S_val (.bool false) (by kernel_rfl) (S_nil (R_seq (R_region (S_load 1 0 (.agg #[.int .i64 (wHi a), .int .u64 (wLo a)]) hM29 (by kernel_rfl) (S_callB (a) [] hM29 (k_Wide a h_a w28) sub0 (by kernel_rfl) (fun x33 h34 b35 l36 hn37 A38 cap39 hc40 w41 hM42 => S_call (toI x33) (fun r : Int × Bool => .tuple #[.int .i64 r.1, .bool r.2]) hM42 (k_ToInt b35 l36 x33 hn37 A38 (List.length l36) cap39 rfl hc40 (by omega) w41 (hM42.ent 0 rfl)) (by kernel_rfl) (fun r43 h44 w45 hM46 => ?_)))))))))))
      have HR := hr_neg HR Bool.false_ne_true
      have HR := hr_lt HR h34
      have HR := hr_lt HR h44
      obtain ⟨r47, b49⟩ := r43
      cases b49
      · refine S_val (.tuple #[.int .i64 r47, .bool false]) (by kernel_rfl) (S_val (.int .i64 r47) (by kernel_rfl) (S_val (.bool false) (by kernel_rfl) (S_val (.int .i64 r47) (by kernel_rfl) (S_val (.bool false) (by kernel_rfl) (S_nil (R_seq (R_drawF 18 (by kernel_rfl) (fun F50 U51 hL52 => F_val (.int .i64 n) (fun _ => by kernel_rfl) (F_call (wof n) (fun r : Int => .agg #[.int .i64 (wHi r), .int .u64 (wLo r)]) hM46 hL52 (fun w' hM' => c_wide_Of n h_n w') (by kernel_rfl) (fun _ => by kernel_rfl) (fun r53 h54 => F_load 0 0 (.agg #[.int .i64 (wHi r18), .int .u64 (wLo r18)]) hM46 (by kernel_rfl) (?_)))))))))))
        have HR := hr_neg HR Bool.false_ne_true
        have HR := hr_lt HR h54
        refine F_dec ((r53 : Int) = r18) (fun _ => eqv_W (x := r53) (y := r18) (by kernel_rfl) (by kernel_rfl) (by kernel_rfl)) (fun c55 => ?_) (fun c55 => ?_)
        · refine F_val (.bool true) (fun _ => by kernel_rfl) (F_val (.int .i64 r30) (fun _ => by kernel_rfl) (F_val (.int .i64 r47) (fun _ => by kernel_rfl) (?_)))
          have HR := hr_pos HR c55
          refine F_dec (r30 = r47) (fun _ => by kernel_rfl) (fun c56 => ?_) (fun c56 => ?_)
          · refine F_val (.bool true) (fun _ => by kernel_rfl) (F_val (.bool true) (fun _ => by kernel_rfl) (F_val (.bool false) (fun _ => by kernel_rfl) (F_val (.bool false) (fun _ => by kernel_rfl) (F_val (.bool true) (fun _ => by kernel_rfl) (F_val (.bool true) (fun _ => by kernel_rfl) (F_val (.bool true) (fun _ => by kernel_rfl) (F_call (works01 ) (fun r : Bool => .bool r) hM46 hL52 (fun w' hM' => c_works01  w') (by kernel_rfl) (fun _ => by kernel_rfl) (fun r57 h58 => ?_))))))))
            have HR := hr_pos HR c56
            have HR := hr_lt HR h58
            cases r57
            · refine F_val (.bool false) (fun _ => by kernel_rfl) (F_val (.bool false) (fun _ => by kernel_rfl) (F_nil hM46 hL52 (fun w59 hM60 => S_nil (?_))))
              have HR := hr_neg HR Bool.false_ne_true
              refine R_ret hM60 rfl (.cons (.tmp _ (.bool false) (by kernel_rfl)) .nil) rfl ?_
              exact ⟨congrArg Ending.returned HR, hM60.below⟩
            · refine F_val (.bool true) (fun _ => by kernel_rfl) (F_val (.bool true) (fun _ => by kernel_rfl) (F_nil hM46 hL52 (fun w61 hM62 => S_nil (?_))))
              have HR := hr_pos HR rfl
              refine R_ret hM62 rfl (.cons (.tmp _ (.bool true) (by kernel_rfl)) .nil) rfl ?_
              exact ⟨congrArg Ending.returned HR, hM62.below⟩
          · refine F_val (.bool false) (fun _ => by kernel_rfl) (F_val (.bool false) (fun _ => by kernel_rfl) (F_skip (by kernel_rfl) (F_skip (by kernel_rfl) (F_skip (by kernel_rfl) (F_val (.bool false) (fun _ => by kernel_rfl) (F_val (.bool false) (fun _ => by kernel_rfl) (F_skip (by kernel_rfl) (F_val (.bool false) (fun _ => by kernel_rfl) (F_val (.bool false) (fun _ => by kernel_rfl) (F_nil hM46 hL52 (fun w64 hM65 => S_nil (?_))))))))))))
            have HR := hr_neg HR c56
            refine R_ret hM65 rfl (.cons (.tmp _ (.bool false) (by kernel_rfl)) .nil) rfl ?_
            exact ⟨congrArg Ending.returned HR, hM65.below⟩
        · refine F_val (.bool false) (fun _ => by kernel_rfl) (F_skip (by kernel_rfl) (F_skip (by kernel_rfl) (F_skip (by kernel_rfl) (F_val (.bool false) (fun _ => by kernel_rfl) (F_val (.bool false) (fun _ => by kernel_rfl) (F_skip (by kernel_rfl) (F_skip (by kernel_rfl) (F_skip (by kernel_rfl) (F_val (.bool false) (fun _ => by kernel_rfl) (F_val (.bool false) (fun _ => by kernel_rfl) (F_skip (by kernel_rfl) (?_))))))))))))
          have HR := hr_neg HR c55
          refine F_val (.bool false) (fun _ => by kernel_rfl) (F_val (.bool false) (fun _ => by kernel_rfl) (F_nil hM46 hL52 (fun w66 hM67 => S_nil (?_))))
          refine R_ret hM67 rfl (.cons (.tmp _ (.bool false) (by kernel_rfl)) .nil) rfl ?_
          exact ⟨congrArg Ending.returned HR, hM67.below⟩
      · refine S_val (.tuple #[.int .i64 r47, .bool true]) (by kernel_rfl) (S_val (.int .i64 r47) (by kernel_rfl) (S_val (.bool true) (by kernel_rfl) (S_val (.int .i64 r47) (by kernel_rfl) (S_val (.bool true) (by kernel_rfl) (S_nil (R_seq (R_drawF 18 (by kernel_rfl) (fun F68 U69 hL70 => F_val (.int .i64 n) (fun _ => by kernel_rfl) (F_call (wof n) (fun r : Int => .agg #[.int .i64 (wHi r), .int .u64 (wLo r)]) hM46 hL70 (fun w' hM' => c_wide_Of n h_n w') (by kernel_rfl) (fun _ => by kernel_rfl) (fun r71 h72 => F_load 0 0 (.agg #[.int .i64 (wHi r18), .int .u64 (wLo r18)]) hM46 (by kernel_rfl) (?_)))))))))))
        have HR := hr_pos HR rfl
        have HR := hr_lt HR h72
        refine F_dec ((r71 : Int) = r18) (fun _ => eqv_W (x := r71) (y := r18) (by kernel_rfl) (by kernel_rfl) (by kernel_rfl)) (fun c73 => ?_) (fun c73 => ?_)
        · refine F_val (.bool true) (fun _ => by kernel_rfl) (F_val (.int .i64 r30) (fun _ => by kernel_rfl) (F_val (.int .i64 r47) (fun _ => by kernel_rfl) (?_)))
          have HR := hr_pos HR c73
          refine F_dec (r30 = r47) (fun _ => by kernel_rfl) (fun c74 => ?_) (fun c74 => ?_)
          · refine F_val (.bool true) (fun _ => by kernel_rfl) (F_val (.bool true) (fun _ => by kernel_rfl) (F_val (.bool false) (fun _ => by kernel_rfl) (F_val (.bool true) (fun _ => by kernel_rfl) (F_val (.bool false) (fun _ => by kernel_rfl) (F_val (.bool false) (fun _ => by kernel_rfl) (F_val (.bool false) (fun _ => by kernel_rfl) (F_skip (by kernel_rfl) (F_val (.bool false) (fun _ => by kernel_rfl) (F_val (.bool false) (fun _ => by kernel_rfl) (F_nil hM46 hL70 (fun w75 hM76 => S_nil (?_))))))))))))
            have HR := hr_pos HR c74
            refine R_ret hM76 rfl (.cons (.tmp _ (.bool false) (by kernel_rfl)) .nil) rfl ?_
            exact ⟨congrArg Ending.returned HR, hM76.below⟩
          · refine F_val (.bool false) (fun _ => by kernel_rfl) (F_val (.bool false) (fun _ => by kernel_rfl) (F_skip (by kernel_rfl) (F_skip (by kernel_rfl) (F_skip (by kernel_rfl) (F_val (.bool false) (fun _ => by kernel_rfl) (F_val (.bool false) (fun _ => by kernel_rfl) (F_skip (by kernel_rfl) (F_val (.bool false) (fun _ => by kernel_rfl) (F_val (.bool false) (fun _ => by kernel_rfl) (F_nil hM46 hL70 (fun w77 hM78 => S_nil (?_))))))))))))
            have HR := hr_neg HR c74
            refine R_ret hM78 rfl (.cons (.tmp _ (.bool false) (by kernel_rfl)) .nil) rfl ?_
            exact ⟨congrArg Ending.returned HR, hM78.below⟩
        · refine F_val (.bool false) (fun _ => by kernel_rfl) (F_skip (by kernel_rfl) (F_skip (by kernel_rfl) (F_skip (by kernel_rfl) (F_val (.bool false) (fun _ => by kernel_rfl) (F_val (.bool false) (fun _ => by kernel_rfl) (F_skip (by kernel_rfl) (F_skip (by kernel_rfl) (F_skip (by kernel_rfl) (F_val (.bool false) (fun _ => by kernel_rfl) (F_val (.bool false) (fun _ => by kernel_rfl) (F_skip (by kernel_rfl) (?_))))))))))))
          have HR := hr_neg HR c73
          refine F_val (.bool false) (fun _ => by kernel_rfl) (F_val (.bool false) (fun _ => by kernel_rfl) (F_nil hM46 hL70 (fun w79 hM80 => S_nil (?_))))
          refine R_ret hM80 rfl (.cons (.tmp _ (.bool false) (by kernel_rfl)) .nil) rfl ?_
          exact ⟨congrArg Ending.returned HR, hM80.below⟩
    · refine S_val (.tuple #[.int .i64 r30, .bool true]) (by kernel_rfl) (S_val (.int .i64 r30) (by kernel_rfl) (S_val (.bool true) (by kernel_rfl) (S_val (.int .i64 r30) (by kernel_rfl) (S_val (.bool true) (by kernel_rfl) (S_nil (R_seq (R_region (S_load 1 0 (.agg #[.int .i64 (wHi a), .int .u64 (wLo a)]) hM29 (by kernel_rfl) (S_callB (a) [] hM29 (k_Wide a h_a w28) sub0 (by kernel_rfl) (fun x82 h83 b84 l85 hn86 A87 cap88 hc89 w90 hM91 => S_call (toI x82) (fun r : Int × Bool => .tuple #[.int .i64 r.1, .bool r.2]) hM91 (k_ToInt b84 l85 x82 hn86 A87 (List.length l85) cap88 rfl hc89 (by omega) w90 (hM91.ent 0 rfl)) (by kernel_rfl) (fun r92 h93 w94 hM95 => ?_)))))))))))
      have HR := hr_pos HR rfl
      have HR := hr_lt HR h83
      have HR := hr_lt HR h93
      obtain ⟨r96, b98⟩ := r92
      cases b98
      · refine S_val (.tuple #[.int .i64 r96, .bool false]) (by kernel_rfl) (S_val (.int .i64 r96) (by kernel_rfl) (S_val (.bool false) (by kernel_rfl) (S_val (.int .i64 r96) (by kernel_rfl) (S_val (.bool false) (by kernel_rfl) (S_nil (R_seq (R_drawF 18 (by kernel_rfl) (fun F99 U100 hL101 => F_val (.int .i64 n) (fun _ => by kernel_rfl) (F_call (wof n) (fun r : Int => .agg #[.int .i64 (wHi r), .int .u64 (wLo r)]) hM95 hL101 (fun w' hM' => c_wide_Of n h_n w') (by kernel_rfl) (fun _ => by kernel_rfl) (fun r102 h103 => F_load 0 0 (.agg #[.int .i64 (wHi r18), .int .u64 (wLo r18)]) hM95 (by kernel_rfl) (?_)))))))))))
        have HR := hr_neg HR Bool.false_ne_true
        have HR := hr_lt HR h103
        refine F_dec ((r102 : Int) = r18) (fun _ => eqv_W (x := r102) (y := r18) (by kernel_rfl) (by kernel_rfl) (by kernel_rfl)) (fun c104 => ?_) (fun c104 => ?_)
        · refine F_val (.bool true) (fun _ => by kernel_rfl) (F_val (.int .i64 r30) (fun _ => by kernel_rfl) (F_val (.int .i64 r96) (fun _ => by kernel_rfl) (?_)))
          have HR := hr_pos HR c104
          refine F_dec (r30 = r96) (fun _ => by kernel_rfl) (fun c105 => ?_) (fun c105 => ?_)
          · refine F_val (.bool true) (fun _ => by kernel_rfl) (F_val (.bool true) (fun _ => by kernel_rfl) (F_val (.bool true) (fun _ => by kernel_rfl) (F_val (.bool false) (fun _ => by kernel_rfl) (F_val (.bool false) (fun _ => by kernel_rfl) (F_val (.bool false) (fun _ => by kernel_rfl) (F_val (.bool false) (fun _ => by kernel_rfl) (F_skip (by kernel_rfl) (F_val (.bool false) (fun _ => by kernel_rfl) (F_val (.bool false) (fun _ => by kernel_rfl) (F_nil hM95 hL101 (fun w106 hM107 => S_nil (?_))))))))))))
            have HR := hr_pos HR c105
            refine R_ret hM107 rfl (.cons (.tmp _ (.bool false) (by kernel_rfl)) .nil) rfl ?_
            exact ⟨congrArg Ending.returned HR, hM107.below⟩
          · refine F_val (.bool false) (fun _ => by kernel_rfl) (F_val (.bool false) (fun _ => by kernel_rfl) (F_skip (by kernel_rfl) (F_skip (by kernel_rfl) (F_skip (by kernel_rfl) (F_val (.bool false) (fun _ => by kernel_rfl) (F_val (.bool false) (fun _ => by kernel_rfl) (F_skip (by kernel_rfl) (F_val (.bool false) (fun _ => by kernel_rfl) (F_val (.bool false) (fun _ => by kernel_rfl) (F_nil hM95 hL101 (fun w108 hM109 => S_nil (?_))))))))))))
            have HR := hr_neg HR c105
            refine R_ret hM109 rfl (.cons (.tmp _ (.bool false) (by kernel_rfl)) .nil) rfl ?_
            exact ⟨congrArg Ending.returned HR, hM109.below⟩
        · refine F_val (.bool false) (fun _ => by kernel_rfl) (F_skip (by kernel_rfl) (F_skip (by kernel_rfl) (F_skip (by kernel_rfl) (F_val (.bool false) (fun _ => by kernel_rfl) (F_val (.bool false) (fun _ => by kernel_rfl) (F_skip (by kernel_rfl) (F_skip (by kernel_rfl) (F_skip (by kernel_rfl) (F_val (.bool false) (fun _ => by kernel_rfl) (F_val (.bool false) (fun _ => by kernel_rfl) (F_skip (by kernel_rfl) (?_))))))))))))
          have HR := hr_neg HR c104
          refine F_val (.bool false) (fun _ => by kernel_rfl) (F_val (.bool false) (fun _ => by kernel_rfl) (F_nil hM95 hL101 (fun w110 hM111 => S_nil (?_))))
          refine R_ret hM111 rfl (.cons (.tmp _ (.bool false) (by kernel_rfl)) .nil) rfl ?_
          exact ⟨congrArg Ending.returned HR, hM111.below⟩
      · refine S_val (.tuple #[.int .i64 r96, .bool true]) (by kernel_rfl) (S_val (.int .i64 r96) (by kernel_rfl) (S_val (.bool true) (by kernel_rfl) (S_val (.int .i64 r96) (by kernel_rfl) (S_val (.bool true) (by kernel_rfl) (S_nil (R_seq (R_drawF 18 (by kernel_rfl) (fun F112 U113 hL114 => F_val (.int .i64 n) (fun _ => by kernel_rfl) (F_call (wof n) (fun r : Int => .agg #[.int .i64 (wHi r), .int .u64 (wLo r)]) hM95 hL114 (fun w' hM' => c_wide_Of n h_n w') (by kernel_rfl) (fun _ => by kernel_rfl) (fun r115 h116 => F_load 0 0 (.agg #[.int .i64 (wHi r18), .int .u64 (wLo r18)]) hM95 (by kernel_rfl) (?_)))))))))))
        have HR := hr_pos HR rfl
        have HR := hr_lt HR h116
        refine F_dec ((r115 : Int) = r18) (fun _ => eqv_W (x := r115) (y := r18) (by kernel_rfl) (by kernel_rfl) (by kernel_rfl)) (fun c117 => ?_) (fun c117 => ?_)
        · refine F_val (.bool true) (fun _ => by kernel_rfl) (F_val (.int .i64 r30) (fun _ => by kernel_rfl) (F_val (.int .i64 r96) (fun _ => by kernel_rfl) (?_)))
          have HR := hr_pos HR c117
          refine F_dec (r30 = r96) (fun _ => by kernel_rfl) (fun c118 => ?_) (fun c118 => ?_)
          · refine F_val (.bool true) (fun _ => by kernel_rfl) (F_val (.bool true) (fun _ => by kernel_rfl) (F_val (.bool true) (fun _ => by kernel_rfl) (F_val (.bool true) (fun _ => by kernel_rfl) (F_val (.bool true) (fun _ => by kernel_rfl) (F_val (.bool true) (fun _ => by kernel_rfl) (F_val (.bool true) (fun _ => by kernel_rfl) (F_call (works01 ) (fun r : Bool => .bool r) hM95 hL114 (fun w' hM' => c_works01  w') (by kernel_rfl) (fun _ => by kernel_rfl) (fun r119 h120 => ?_))))))))
            have HR := hr_pos HR c118
            have HR := hr_lt HR h120
            cases r119
            · refine F_val (.bool false) (fun _ => by kernel_rfl) (F_val (.bool false) (fun _ => by kernel_rfl) (F_nil hM95 hL114 (fun w121 hM122 => S_nil (?_))))
              have HR := hr_neg HR Bool.false_ne_true
              refine R_ret hM122 rfl (.cons (.tmp _ (.bool false) (by kernel_rfl)) .nil) rfl ?_
              exact ⟨congrArg Ending.returned HR, hM122.below⟩
            · refine F_val (.bool true) (fun _ => by kernel_rfl) (F_val (.bool true) (fun _ => by kernel_rfl) (F_nil hM95 hL114 (fun w123 hM124 => S_nil (?_))))
              have HR := hr_pos HR rfl
              refine R_ret hM124 rfl (.cons (.tmp _ (.bool true) (by kernel_rfl)) .nil) rfl ?_
              exact ⟨congrArg Ending.returned HR, hM124.below⟩
          · refine F_val (.bool false) (fun _ => by kernel_rfl) (F_val (.bool false) (fun _ => by kernel_rfl) (F_skip (by kernel_rfl) (F_skip (by kernel_rfl) (F_skip (by kernel_rfl) (F_val (.bool false) (fun _ => by kernel_rfl) (F_val (.bool false) (fun _ => by kernel_rfl) (F_skip (by kernel_rfl) (F_val (.bool false) (fun _ => by kernel_rfl) (F_val (.bool false) (fun _ => by kernel_rfl) (F_nil hM95 hL114 (fun w126 hM127 => S_nil (?_))))))))))))
            have HR := hr_neg HR c118
            refine R_ret hM127 rfl (.cons (.tmp _ (.bool false) (by kernel_rfl)) .nil) rfl ?_
            exact ⟨congrArg Ending.returned HR, hM127.below⟩
        · refine F_val (.bool false) (fun _ => by kernel_rfl) (F_skip (by kernel_rfl) (F_skip (by kernel_rfl) (F_skip (by kernel_rfl) (F_val (.bool false) (fun _ => by kernel_rfl) (F_val (.bool false) (fun _ => by kernel_rfl) (F_skip (by kernel_rfl) (F_skip (by kernel_rfl) (F_skip (by kernel_rfl) (F_val (.bool false) (fun _ => by kernel_rfl) (F_val (.bool false) (fun _ => by kernel_rfl) (F_skip (by kernel_rfl) (?_))))))))))))
          have HR := hr_neg HR c117
          refine F_val (.bool false) (fun _ => by kernel_rfl) (F_val (.bool false) (fun _ => by kernel_rfl) (F_nil hM95 hL114 (fun w128 hM129 => S_nil (?_))))
          refine R_ret hM129 rfl (.cons (.tmp _ (.bool false) (by kernel_rfl)) .nil) rfl ?_
          exact ⟨congrArg Ending.returned HR, hM129.below⟩
  · refine S_val (.tuple #[.agg #[.int .i64 (wHi r18), .int .u64 (wLo r18)], .bool true]) (by kernel_rfl) (S_val (.agg #[.int .i64 (wHi r18), .int .u64 (wLo r18)]) (by kernel_rfl) (S_val (.bool true) (by kernel_rfl) (S_fresh none #[.int .i64 0, .int .u64 0] 24 hM17 (by kernel_rfl) (fun g132 w133 hM134 => S_store 0 0 #[.int .i64 (wHi r18), .int .u64 (wLo r18)] hM134 (by kernel_rfl) (fun w135 hM136 => S_val (.bool true) (by kernel_rfl) (S_nil (R_seq (R_region (S_load 1 0 (.agg #[.int .i64 (wHi a), .int .u64 (wLo a)]) hM136 (by kernel_rfl) (S_call (wint a) (fun r : Int × Bool => .tuple #[.int .i64 r.1, .bool r.2]) hM136 (c_wide_Int a h_a w135) (by kernel_rfl) (fun r137 h138 w139 hM140 => ?_)))))))))))
    have HR := hr_pos HR rfl
    have HR := hr_lt HR h138
    obtain ⟨r141, b143⟩ := r137
    cases b143
    · refine S_val (.tuple #[.int .i64 r141, .bool false]) (by kernel_rfl) (S_val (.int .i64 r141) (by kernel_rfl) (S_val (.bool false) (by kernel_rfl) (S_val (.int .i64 r141) (by kernel_rfl) (S_val (.bool false) (by kernel_rfl) (S_nil (R_seq (R_region (S_load 1 0 (.agg #[.int .i64 (wHi a), .int .u64 (wLo a)]) hM140 (by kernel_rfl) (S_callB (a) [] hM140 (k_Wide a h_a w139) sub0 (by kernel_rfl) (fun x144 h145 b146 l147 hn148 A149 cap150 hc151 w152 hM153 => S_call (toI x144) (fun r : Int × Bool => .tuple #[.int .i64 r.1, .bool r.2]) hM153 (k_ToInt b146 l147 x144 hn148 A149 (List.length l147) cap150 rfl hc151 (by omega) w152 (hM153.ent 0 rfl)) (by kernel_rfl) (fun r154 h155 w156 hM157 => ?_)))))))))))
      have HR := hr_neg HR Bool.false_ne_true
      have HR := hr_lt HR h145
      have HR := hr_lt HR h155
      obtain ⟨r158, b160⟩ := r154
      cases b160
      · refine S_val (.tuple #[.int .i64 r158, .bool false]) (by kernel_rfl) (S_val (.int .i64 r158) (by kernel_rfl) (S_val (.bool false) (by kernel_rfl) (S_val (.int .i64 r158) (by kernel_rfl) (S_val (.bool false) (by kernel_rfl) (S_nil (R_seq (R_drawF 18 (by kernel_rfl) (fun F161 U162 hL163 => F_val (.int .i64 n) (fun _ => by kernel_rfl) (F_call (wof n) (fun r : Int => .agg #[.int .i64 (wHi r), .int .u64 (wLo r)]) hM157 hL163 (fun w' hM' => c_wide_Of n h_n w') (by kernel_rfl) (fun _ => by kernel_rfl) (fun r164 h165 => F_load 0 0 (.agg #[.int .i64 (wHi r18), .int .u64 (wLo r18)]) hM157 (by kernel_rfl) (?_)))))))))))
        have HR := hr_neg HR Bool.false_ne_true
        have HR := hr_lt HR h165
        refine F_dec ((r164 : Int) = r18) (fun _ => eqv_W (x := r164) (y := r18) (by kernel_rfl) (by kernel_rfl) (by kernel_rfl)) (fun c166 => ?_) (fun c166 => ?_)
        · refine F_val (.bool true) (fun _ => by kernel_rfl) (F_val (.int .i64 r141) (fun _ => by kernel_rfl) (F_val (.int .i64 r158) (fun _ => by kernel_rfl) (?_)))
          have HR := hr_pos HR c166
          refine F_dec (r141 = r158) (fun _ => by kernel_rfl) (fun c167 => ?_) (fun c167 => ?_)
          · refine F_val (.bool true) (fun _ => by kernel_rfl) (F_val (.bool true) (fun _ => by kernel_rfl) (F_val (.bool false) (fun _ => by kernel_rfl) (F_val (.bool false) (fun _ => by kernel_rfl) (F_val (.bool true) (fun _ => by kernel_rfl) (F_val (.bool true) (fun _ => by kernel_rfl) (F_val (.bool true) (fun _ => by kernel_rfl) (F_call (works01 ) (fun r : Bool => .bool r) hM157 hL163 (fun w' hM' => c_works01  w') (by kernel_rfl) (fun _ => by kernel_rfl) (fun r168 h169 => ?_))))))))
            have HR := hr_pos HR c167
            have HR := hr_lt HR h169
            cases r168
            · refine F_val (.bool false) (fun _ => by kernel_rfl) (F_val (.bool false) (fun _ => by kernel_rfl) (F_nil hM157 hL163 (fun w170 hM171 => S_nil (?_))))
              have HR := hr_neg HR Bool.false_ne_true
              refine R_ret hM171 rfl (.cons (.tmp _ (.bool false) (by kernel_rfl)) .nil) rfl ?_
              exact ⟨congrArg Ending.returned HR, hM171.below⟩
            · refine F_val (.bool true) (fun _ => by kernel_rfl) (F_val (.bool true) (fun _ => by kernel_rfl) (F_nil hM157 hL163 (fun w172 hM173 => S_nil (?_))))
              have HR := hr_pos HR rfl
              refine R_ret hM173 rfl (.cons (.tmp _ (.bool true) (by kernel_rfl)) .nil) rfl ?_
              exact ⟨congrArg Ending.returned HR, hM173.below⟩
          · refine F_val (.bool false) (fun _ => by kernel_rfl) (F_val (.bool false) (fun _ => by kernel_rfl) (F_skip (by kernel_rfl) (F_skip (by kernel_rfl) (F_skip (by kernel_rfl) (F_val (.bool false) (fun _ => by kernel_rfl) (F_val (.bool false) (fun _ => by kernel_rfl) (F_skip (by kernel_rfl) (F_val (.bool false) (fun _ => by kernel_rfl) (F_val (.bool false) (fun _ => by kernel_rfl) (F_nil hM157 hL163 (fun w175 hM176 => S_nil (?_))))))))))))
            have HR := hr_neg HR c167
            refine R_ret hM176 rfl (.cons (.tmp _ (.bool false) (by kernel_rfl)) .nil) rfl ?_
            exact ⟨congrArg Ending.returned HR, hM176.below⟩
        · refine F_val (.bool false) (fun _ => by kernel_rfl) (F_skip (by kernel_rfl) (F_skip (by kernel_rfl) (F_skip (by kernel_rfl) (F_val (.bool false) (fun _ => by kernel_rfl) (F_val (.bool false) (fun _ => by kernel_rfl) (F_skip (by kernel_rfl) (F_skip (by kernel_rfl) (F_skip (by kernel_rfl) (F_val (.bool false) (fun _ => by kernel_rfl) (F_val (.bool false) (fun _ => by kernel_rfl) (F_skip (by kernel_rfl) (?_))))))))))))
          have HR := hr_neg HR c166
          refine F_val (.bool false) (fun _ => by kernel_rfl) (F_val (.bool false) (fun _ => by kernel_rfl) (F_nil hM157 hL163 (fun w177 hM178 => S_nil (?_))))
          refine R_ret hM178 rfl (.cons (.tmp _ (.bool false) (by kernel_rfl)) .nil) rfl ?_
          exact ⟨congrArg Ending.returned HR, hM178.below⟩
      · refine S_val (.tuple #[.int .i64 r158, .bool true]) (by kernel_rfl) (S_val (.int .i64 r158) (by kernel_rfl) (S_val (.bool true) (by kernel_rfl) (S_val (.int .i64 r158) (by kernel_rfl) (S_val (.bool true) (by kernel_rfl) (S_nil (R_seq (R_drawF 18 (by kernel_rfl) (fun F179 U180 hL181 => F_val (.int .i64 n) (fun _ => by kernel_rfl) (F_call (wof n) (fun r : Int => .agg #[.int .i64 (wHi r), .int .u64 (wLo r)]) hM157 hL181 (fun w' hM' => c_wide_Of n h_n w') (by kernel_rfl) (fun _ => by kernel_rfl) (fun r182 h183 => F_load 0 0 (.agg #[.int .i64 (wHi r18), .int .u64 (wLo r18)]) hM157 (by kernel_rfl) (?_)))))))))))
        have HR := hr_pos HR rfl
        have HR := hr_lt HR h183
        refine F_dec ((r182 : Int) = r18) (fun _ => eqv_W (x := r182) (y := r18) (by kernel_rfl) (by kernel_rfl) (by kernel_rfl)) (fun c184 => ?_) (fun c184 => ?_)
        · refine F_val (.bool true) (fun _ => by kernel_rfl) (F_val (.int .i64 r141) (fun _ => by kernel_rfl) (F_val (.int .i64 r158) (fun _ => by kernel_rfl) (?_)))
          have HR := hr_pos HR c184
          refine F_dec (r141 = r158) (fun _ => by kernel_rfl) (fun c185 => ?_) (fun c185 => ?_)
          · refine F_val (.bool true) (fun _ => by kernel_rfl) (F_val (.bool true) (fun _ => by kernel_rfl) (F_val (.bool false) (fun _ => by kernel_rfl) (F_val (.bool true) (fun _ => by kernel_rfl) (F_val (.bool false) (fun _ => by kernel_rfl) (F_val (.bool false) (fun _ => by kernel_rfl) (F_val (.bool false) (fun _ => by kernel_rfl) (F_skip (by kernel_rfl) (F_val (.bool false) (fun _ => by kernel_rfl) (F_val (.bool false) (fun _ => by kernel_rfl) (F_nil hM157 hL181 (fun w186 hM187 => S_nil (?_))))))))))))
            have HR := hr_pos HR c185
            refine R_ret hM187 rfl (.cons (.tmp _ (.bool false) (by kernel_rfl)) .nil) rfl ?_
            exact ⟨congrArg Ending.returned HR, hM187.below⟩
          · refine F_val (.bool false) (fun _ => by kernel_rfl) (F_val (.bool false) (fun _ => by kernel_rfl) (F_skip (by kernel_rfl) (F_skip (by kernel_rfl) (F_skip (by kernel_rfl) (F_val (.bool false) (fun _ => by kernel_rfl) (F_val (.bool false) (fun _ => by kernel_rfl) (F_skip (by kernel_rfl) (F_val (.bool false) (fun _ => by kernel_rfl) (F_val (.bool false) (fun _ => by kernel_rfl) (F_nil hM157 hL181 (fun w188 hM189 => S_nil (?_))))))))))))
            have HR := hr_neg HR c185
            refine R_ret hM189 rfl (.cons (.tmp _ (.bool false) (by kernel_rfl)) .nil) rfl ?_
            exact ⟨congrArg Ending.returned HR, hM189.below⟩
        · refine F_val (.bool false) (fun _ => by kernel_rfl) (F_skip (by kernel_rfl) (F_skip (by kernel_rfl) (F_skip (by kernel_rfl) (F_val (.bool false) (fun _ => by kernel_rfl) (F_val (.bool false) (fun _ => by kernel_rfl) (F_skip (by kernel_rfl) (F_skip (by kernel_rfl) (F_skip (by kernel_rfl) (F_val (.bool false) (fun _ => by kernel_rfl) (F_val (.bool false) (fun _ => by kernel_rfl) (F_skip (by kernel_rfl) (?_))))))))))))
          have HR := hr_neg HR c184
          refine F_val (.bool false) (fun _ => by kernel_rfl) (F_val (.bool false) (fun _ => by kernel_rfl) (F_nil hM157 hL181 (fun w190 hM191 => S_nil (?_))))
          refine R_ret hM191 rfl (.cons (.tmp _ (.bool false) (by kernel_rfl)) .nil) rfl ?_
          exact ⟨congrArg Ending.returned HR, hM191.below⟩
    · refine S_val (.tuple #[.int .i64 r141, .bool true]) (by kernel_rfl) (S_val (.int .i64 r141) (by kernel_rfl) (S_val (.bool true) (by kernel_rfl) (S_val (.int .i64 r141) (by kernel_rfl) (S_val (.bool true) (by kernel_rfl) (S_nil (R_seq (R_region (S_load 1 0 (.agg #[.int .i64 (wHi a), .int .u64 (wLo a)]) hM140 (by kernel_rfl) (S_callB (a) [] hM140 (k_Wide a h_a w139) sub0 (by kernel_rfl) (fun x193 h194 b195 l196 hn197 A198 cap199 hc200 w201 hM202 => S_call (toI x193) (fun r : Int × Bool => .tuple #[.int .i64 r.1, .bool r.2]) hM202 (k_ToInt b195 l196 x193 hn197 A198 (List.length l196) cap199 rfl hc200 (by omega) w201 (hM202.ent 0 rfl)) (by kernel_rfl) (fun r203 h204 w205 hM206 => ?_)))))))))))
      have HR := hr_pos HR rfl
      have HR := hr_lt HR h194
      have HR := hr_lt HR h204
      obtain ⟨r207, b209⟩ := r203
      cases b209
      · refine S_val (.tuple #[.int .i64 r207, .bool false]) (by kernel_rfl) (S_val (.int .i64 r207) (by kernel_rfl) (S_val (.bool false) (by kernel_rfl) (S_val (.int .i64 r207) (by kernel_rfl) (S_val (.bool false) (by kernel_rfl) (S_nil (R_seq (R_drawF 18 (by kernel_rfl) (fun F210 U211 hL212 => F_val (.int .i64 n) (fun _ => by kernel_rfl) (F_call (wof n) (fun r : Int => .agg #[.int .i64 (wHi r), .int .u64 (wLo r)]) hM206 hL212 (fun w' hM' => c_wide_Of n h_n w') (by kernel_rfl) (fun _ => by kernel_rfl) (fun r213 h214 => F_load 0 0 (.agg #[.int .i64 (wHi r18), .int .u64 (wLo r18)]) hM206 (by kernel_rfl) (?_)))))))))))
        have HR := hr_neg HR Bool.false_ne_true
        have HR := hr_lt HR h214
        refine F_dec ((r213 : Int) = r18) (fun _ => eqv_W (x := r213) (y := r18) (by kernel_rfl) (by kernel_rfl) (by kernel_rfl)) (fun c215 => ?_) (fun c215 => ?_)
        · refine F_val (.bool true) (fun _ => by kernel_rfl) (F_val (.int .i64 r141) (fun _ => by kernel_rfl) (F_val (.int .i64 r207) (fun _ => by kernel_rfl) (?_)))
          have HR := hr_pos HR c215
          refine F_dec (r141 = r207) (fun _ => by kernel_rfl) (fun c216 => ?_) (fun c216 => ?_)
          · refine F_val (.bool true) (fun _ => by kernel_rfl) (F_val (.bool true) (fun _ => by kernel_rfl) (F_val (.bool true) (fun _ => by kernel_rfl) (F_val (.bool false) (fun _ => by kernel_rfl) (F_val (.bool false) (fun _ => by kernel_rfl) (F_val (.bool false) (fun _ => by kernel_rfl) (F_val (.bool false) (fun _ => by kernel_rfl) (F_skip (by kernel_rfl) (F_val (.bool false) (fun _ => by kernel_rfl) (F_val (.bool false) (fun _ => by kernel_rfl) (F_nil hM206 hL212 (fun w217 hM218 => S_nil (?_))))))))))))
            have HR := hr_pos HR c216
            refine R_ret hM218 rfl (.cons (.tmp _ (.bool false) (by kernel_rfl)) .nil) rfl ?_
            exact ⟨congrArg Ending.returned HR, hM218.below⟩
          · refine F_val (.bool false) (fun _ => by kernel_rfl) (F_val (.bool false) (fun _ => by kernel_rfl) (F_skip (by kernel_rfl) (F_skip (by kernel_rfl) (F_skip (by kernel_rfl) (F_val (.bool false) (fun _ => by kernel_rfl) (F_val (.bool false) (fun _ => by kernel_rfl) (F_skip (by kernel_rfl) (F_val (.bool false) (fun _ => by kernel_rfl) (F_val (.bool false) (fun _ => by kernel_rfl) (F_nil hM206 hL212 (fun w219 hM220 => S_nil (?_))))))))))))
            have HR := hr_neg HR c216
            refine R_ret hM220 rfl (.cons (.tmp _ (.bool false) (by kernel_rfl)) .nil) rfl ?_
            exact ⟨congrArg Ending.returned HR, hM220.below⟩
        · refine F_val (.bool false) (fun _ => by kernel_rfl) (F_skip (by kernel_rfl) (F_skip (by kernel_rfl) (F_skip (by kernel_rfl) (F_val (.bool false) (fun _ => by kernel_rfl) (F_val (.bool false) (fun _ => by kernel_rfl) (F_skip (by kernel_rfl) (F_skip (by kernel_rfl) (F_skip (by kernel_rfl) (F_val (.bool false) (fun _ => by kernel_rfl) (F_val (.bool false) (fun _ => by kernel_rfl) (F_skip (by kernel_rfl) (?_))))))))))))
          have HR := hr_neg HR c215
          refine F_val (.bool false) (fun _ => by kernel_rfl) (F_val (.bool false) (fun _ => by kernel_rfl) (F_nil hM206 hL212 (fun w221 hM222 => S_nil (?_))))
          refine R_ret hM222 rfl (.cons (.tmp _ (.bool false) (by kernel_rfl)) .nil) rfl ?_
          exact ⟨congrArg Ending.returned HR, hM222.below⟩
      · refine S_val (.tuple #[.int .i64 r207, .bool true]) (by kernel_rfl) (S_val (.int .i64 r207) (by kernel_rfl) (S_val (.bool true) (by kernel_rfl) (S_val (.int .i64 r207) (by kernel_rfl) (S_val (.bool true) (by kernel_rfl) (S_nil (R_seq (R_drawF 18 (by kernel_rfl) (fun F223 U224 hL225 => F_val (.int .i64 n) (fun _ => by kernel_rfl) (F_call (wof n) (fun r : Int => .agg #[.int .i64 (wHi r), .int .u64 (wLo r)]) hM206 hL225 (fun w' hM' => c_wide_Of n h_n w') (by kernel_rfl) (fun _ => by kernel_rfl) (fun r226 h227 => F_load 0 0 (.agg #[.int .i64 (wHi r18), .int .u64 (wLo r18)]) hM206 (by kernel_rfl) (?_)))))))))))
        have HR := hr_pos HR rfl
        have HR := hr_lt HR h227
        refine F_dec ((r226 : Int) = r18) (fun _ => eqv_W (x := r226) (y := r18) (by kernel_rfl) (by kernel_rfl) (by kernel_rfl)) (fun c228 => ?_) (fun c228 => ?_)
        · refine F_val (.bool true) (fun _ => by kernel_rfl) (F_val (.int .i64 r141) (fun _ => by kernel_rfl) (F_val (.int .i64 r207) (fun _ => by kernel_rfl) (?_)))
          have HR := hr_pos HR c228
          refine F_dec (r141 = r207) (fun _ => by kernel_rfl) (fun c229 => ?_) (fun c229 => ?_)
          · refine F_val (.bool true) (fun _ => by kernel_rfl) (F_val (.bool true) (fun _ => by kernel_rfl) (F_val (.bool true) (fun _ => by kernel_rfl) (F_val (.bool true) (fun _ => by kernel_rfl) (F_val (.bool true) (fun _ => by kernel_rfl) (F_val (.bool true) (fun _ => by kernel_rfl) (F_val (.bool true) (fun _ => by kernel_rfl) (F_call (works01 ) (fun r : Bool => .bool r) hM206 hL225 (fun w' hM' => c_works01  w') (by kernel_rfl) (fun _ => by kernel_rfl) (fun r230 h231 => ?_))))))))
            have HR := hr_pos HR c229
            have HR := hr_lt HR h231
            cases r230
            · refine F_val (.bool false) (fun _ => by kernel_rfl) (F_val (.bool false) (fun _ => by kernel_rfl) (F_nil hM206 hL225 (fun w232 hM233 => S_nil (?_))))
              have HR := hr_neg HR Bool.false_ne_true
              refine R_ret hM233 rfl (.cons (.tmp _ (.bool false) (by kernel_rfl)) .nil) rfl ?_
              exact ⟨congrArg Ending.returned HR, hM233.below⟩
            · refine F_val (.bool true) (fun _ => by kernel_rfl) (F_val (.bool true) (fun _ => by kernel_rfl) (F_nil hM206 hL225 (fun w234 hM235 => S_nil (?_))))
              have HR := hr_pos HR rfl
              refine R_ret hM235 rfl (.cons (.tmp _ (.bool true) (by kernel_rfl)) .nil) rfl ?_
              exact ⟨congrArg Ending.returned HR, hM235.below⟩
          · refine F_val (.bool false) (fun _ => by kernel_rfl) (F_val (.bool false) (fun _ => by kernel_rfl) (F_skip (by kernel_rfl) (F_skip (by kernel_rfl) (F_skip (by kernel_rfl) (F_val (.bool false) (fun _ => by kernel_rfl) (F_val (.bool false) (fun _ => by kernel_rfl) (F_skip (by kernel_rfl) (F_val (.bool false) (fun _ => by kernel_rfl) (F_val (.bool false) (fun _ => by kernel_rfl) (F_nil hM206 hL225 (fun w237 hM238 => S_nil (?_))))))))))))
            have HR := hr_neg HR c229
            refine R_ret hM238 rfl (.cons (.tmp _ (.bool false) (by kernel_rfl)) .nil) rfl ?_
            exact ⟨congrArg Ending.returned HR, hM238.below⟩
        · refine F_val (.bool false) (fun _ => by kernel_rfl) (F_skip (by kernel_rfl) (F_skip (by kernel_rfl) (F_skip (by kernel_rfl) (F_val (.bool false) (fun _ => by kernel_rfl) (F_val (.bool false) (fun _ => by kernel_rfl) (F_skip (by kernel_rfl) (F_skip (by kernel_rfl) (F_skip (by kernel_rfl) (F_val (.bool false) (fun _ => by kernel_rfl) (F_val (.bool false) (fun _ => by kernel_rfl) (F_skip (by kernel_rfl) (?_))))))))))))
          have HR := hr_neg HR c228
          refine F_val (.bool false) (fun _ => by kernel_rfl) (F_val (.bool false) (fun _ => by kernel_rfl) (F_nil hM206 hL225 (fun w239 hM240 => S_nil (?_))))
          refine R_ret hM240 rfl (.cons (.tmp _ (.bool false) (by kernel_rfl)) .nil) rfl ?_
          exact ⟨congrArg Ending.returned HR, hM240.below⟩

def e_umbralaw01_WideOrders (r : Bool) : Value := .bool r
def s_umbralaw01_WideOrders (a : Int) (b : Int) : Bool :=
  lt (cmpW a b) fun r10 =>
  lt (a) fun x15 =>
  lt (b) fun x26 =>
  lt (sg (x15 - x26)) fun r37 =>
  if r10 = r37 then
    lt (cmpW a 0) fun r43 =>
    lt (a) fun x48 =>
    lt (sg (x48 - 0)) fun r59 =>
    if r43 = r59 then
      lt (works01 ) fun r65 =>
      if r65 = true then
        true
      else
        false
    else
      false
  else
    false
set_option maxRecDepth 100000 in
set_option maxHeartbeats 4000000 in
theorem w_umbralaw01_WideOrders (a : Int) (b : Int) (h_a : InW a) (h_b : InW b) (w : World) : Calls Try.prog 6 #[.agg #[.int .i64 (wHi a), .int .u64 (wLo a)], .agg #[.int .i64 (wHi b), .int .u64 (wLo b)]] w (Ret (e_umbralaw01_WideOrders (s_umbralaw01_WideOrders a b)) w) := by
  obtain ⟨R, HR⟩ : ∃ R, e_umbralaw01_WideOrders (s_umbralaw01_WideOrders a b) = R := ⟨_, rfl⟩
  rw [HR]
  unfold s_umbralaw01_WideOrders at HR
  have hM0 := St.startN (w := w) [] ents0
  refine calls_run Try.func6 rfl ?_
  have i_a := h_a; unfold InW at i_a
  have i_b := h_b; unfold InW at i_b
  refine R_seq (R_region (S_fresh none #[.int .i64 (wHi a), .int .u64 (wLo a)] 24 hM0 (by kernel_rfl) (fun g1 w2 hM3 => S_fresh none #[.int .i64 (wHi b), .int .u64 (wLo b)] 24 hM3 (by kernel_rfl) (fun g4 w5 hM6 => S_val (.bool false) (by kernel_rfl) (S_nil (R_seq (R_drawH ⟨w, [], [(none, nv ([]))]⟩ 22 (by kernel_rfl) (fun F7 U8 hL9 => H_load 1 0 (.agg #[.int .i64 (wHi a), .int .u64 (wLo a)]) hM6 (by kernel_rfl) (H_load 0 0 (.agg #[.int .i64 (wHi b), .int .u64 (wLo b)]) hM6 (by kernel_rfl) (H_call (cmpW a b) (fun r : Int => .int .i64 r) hM6 hL9 (fun w' hM' => c_wide_Cmp a b h_a h_b w') (by kernel_rfl) (fun _ => by kernel_rfl) (fun r10 h11 F12 U13 hL14 => H_load 1 0 (.agg #[.int .i64 (wHi a), .int .u64 (wLo a)]) hM6 (by kernel_rfl) (?_))))))))))))
  have HR := hr_lt HR h11
  refine H_callB (a) [] hM6 hL14 (fun w' hM' => k_Wide a h_a w') sub0 (by kernel_rfl) (fun _ => by kernel_rfl) (fun x15 h16 b17 l18 hn19 A20 cap21 hc22 F23 U24 hL25 => H_load 0 0 (.agg #[.int .i64 (wHi b), .int .u64 (wLo b)]) hM6 (by kernel_rfl) (H_callB (b) [] hM6 hL25 (fun w' hM' => k_Wide b h_b w') sub0 (by kernel_rfl) (fun _ => by kernel_rfl) (fun x26 h27 b28 l29 hn30 A31 cap32 hc33 F34 U35 hL36 => H_call (sg (x15 - x26)) (fun r : Int => .int .i64 r) hM6 hL36 (fun w' hM' => k_Less b17 l18 x15 b28 l29 x26 hn19 hn30 A20 (List.length l18) cap21 A31 (List.length l29) cap32 rfl hc22 rfl hc33 (by omega) (by omega) w' (hM'.ent 1 rfl) (hM'.ent 0 rfl)) (by kernel_rfl) (fun _ => by kernel_rfl) (fun r37 h38 F39 U40 hL41 => ?_))))
  have HR := hr_lt HR h16
  have HR := hr_lt HR h27
  have HR := hr_lt HR h38
  refine H_dec (r10 = r37) (fun _ => by kernel_rfl) (fun c42 => ?_) (fun c42 => ?_)
  · refine H_val (.bool true) (fun _ => by kernel_rfl) (H_load 1 0 (.agg #[.int .i64 (wHi a), .int .u64 (wLo a)]) hM6 (by kernel_rfl) (H_call (cmpW a 0) (fun r : Int => .int .i64 r) hM6 hL41 (fun w' hM' => wSign a h_a w') (by kernel_rfl) (fun _ => by kernel_rfl) (fun r43 h44 F45 U46 hL47 => H_load 1 0 (.agg #[.int .i64 (wHi a), .int .u64 (wLo a)]) hM6 (by kernel_rfl) (H_callB (a) [] hM6 hL47 (fun w' hM' => k_Wide a h_a w') sub0 (by kernel_rfl) (fun _ => by kernel_rfl) (fun x48 h49 b50 l51 hn52 A53 cap54 hc55 F56 U57 hL58 => H_val (.agg #[.bool false, .slice none 0 0]) (fun _ => by kernel_rfl) (H_call (sg (x48 - 0)) (fun r : Int => .int .i64 r) hM6 hL58 (fun w' hM' => k_Less b50 l51 x48 false ([]) 0 hn52 nc_0 A53 (List.length l51) cap54 none 0 0 rfl hc55 rfl (Nat.le_refl _) (by omega) (by omega) w' (hM'.ent 0 rfl) (hM'.ent 3 rfl)) (by kernel_rfl) (fun _ => by kernel_rfl) (fun r59 h60 F61 U62 hL63 => ?_)))))))
    have HR := hr_pos HR c42
    have HR := hr_lt HR h44
    have HR := hr_lt HR h49
    have HR := hr_lt HR h60
    refine H_dec (r43 = r59) (fun _ => by kernel_rfl) (fun c64 => ?_) (fun c64 => ?_)
    · refine H_val (.bool true) (fun _ => by kernel_rfl) (H_val (.bool true) (fun _ => by kernel_rfl) (H_call (works01 ) (fun r : Bool => .bool r) hM6 hL63 (fun w' hM' => c_works01  w') (by kernel_rfl) (fun _ => by kernel_rfl) (fun r65 h66 F67 U68 hL69 => ?_)))
      have HR := hr_pos HR c64
      have HR := hr_lt HR h66
      cases r65
      · refine H_val (.bool false) (fun _ => by kernel_rfl) (H_val (.bool false) (fun _ => by kernel_rfl) (H_nil hM6 hL69 (fun w70 hM71 => S_nil (?_))))
        have HR := hr_neg HR Bool.false_ne_true
        refine R_ret hM71 rfl (.cons (.tmp _ (.bool false) (by kernel_rfl)) .nil) rfl ?_
        exact ⟨congrArg Ending.returned HR, hM71.below⟩
      · refine H_val (.bool true) (fun _ => by kernel_rfl) (H_val (.bool true) (fun _ => by kernel_rfl) (H_nil hM6 hL69 (fun w72 hM73 => S_nil (?_))))
        have HR := hr_pos HR rfl
        refine R_ret hM73 rfl (.cons (.tmp _ (.bool true) (by kernel_rfl)) .nil) rfl ?_
        exact ⟨congrArg Ending.returned HR, hM73.below⟩
    · refine H_val (.bool false) (fun _ => by kernel_rfl) (H_val (.bool false) (fun _ => by kernel_rfl) (H_skip (by kernel_rfl) (H_val (.bool false) (fun _ => by kernel_rfl) (H_val (.bool false) (fun _ => by kernel_rfl) (H_nil hM6 hL63 (fun w75 hM76 => S_nil (?_)))))))
      have HR := hr_neg HR c64
      refine R_ret hM76 rfl (.cons (.tmp _ (.bool false) (by kernel_rfl)) .nil) rfl ?_
      exact ⟨congrArg Ending.returned HR, hM76.below⟩
  · refine H_val (.bool false) (fun _ => by kernel_rfl) (H_skip (by kernel_rfl) (H_skip (by kernel_rfl) (H_skip (by kernel_rfl) (H_skip (by kernel_rfl) (H_skip (by kernel_rfl) (H_skip (by kernel_rfl) (H_skip (by kernel_rfl) (H_val (.bool false) (fun _ => by kernel_rfl) (H_val (.bool false) (fun _ => by kernel_rfl) (H_skip (by kernel_rfl) (H_val (.bool false) (fun _ => by kernel_rfl) (?_))))))))))))
    have HR := hr_neg HR c42
    refine H_val (.bool false) (fun _ => by kernel_rfl) (H_nil hM6 hL41 (fun w77 hM78 => S_nil (?_)))
    refine R_ret hM78 rfl (.cons (.tmp _ (.bool false) (by kernel_rfl)) .nil) rfl ?_
    exact ⟨congrArg Ending.returned HR, hM78.below⟩

def e_umbralaw01_WideProducts (r : Bool) : Value := .bool r
def s_umbralaw01_WideProducts (a : Int) (b : Int) (c : Int) : Bool :=
  lt (a) fun x1 =>
  lt (b) fun x11 =>
  lt (x1 * x11) fun x21 =>
  lt (toW x21) fun r31 =>
  if r31.2 = true then
    lt (a * b) fun r73 =>
    if (r73 : Int) = r31.1 then
      lt (mdN a b c) fun r76 =>
      lt (mdN a b c) fun r78 =>
      if r76 = r78 then
        lt (works01 ) fun r81 =>
        if r81 = true then
          true
        else
          false
      else
        false
    else
      false
  else
    lt (a * b) fun r46 =>
    if (r46 : Int) = r31.1 then
      lt (mdN a b c) fun r49 =>
      lt (mdN a b c) fun r51 =>
      if r49 = r51 then
        lt (works01 ) fun r54 =>
        if r54 = true then
          true
        else
          false
      else
        false
    else
      false
set_option maxRecDepth 100000 in
set_option maxHeartbeats 4000000 in
theorem w_umbralaw01_WideProducts (a : Int) (b : Int) (c : Int) (h_a : InI a) (h_b : InI b) (h_c : InI c) (w : World) : Calls Try.prog 11 #[.int .i64 a, .int .i64 b, .int .i64 c] w (Ret (e_umbralaw01_WideProducts (s_umbralaw01_WideProducts a b c)) w) := by
  obtain ⟨R, HR⟩ : ∃ R, e_umbralaw01_WideProducts (s_umbralaw01_WideProducts a b c) = R := ⟨_, rfl⟩
  rw [HR]
  unfold s_umbralaw01_WideProducts at HR
  have hM0 := St.startN (w := w) [] ents0
  refine calls_run Try.func11 rfl ?_
  have i_a := h_a; unfold InI at i_a
  have i_b := h_b; unfold InI at i_b
  have i_c := h_c; unfold InI at i_c
  refine R_seq (R_region (S_val (.bool false) (by kernel_rfl) (S_nil (R_seq (R_region (S_val (.int .i64 a) (by kernel_rfl) (S_callB (a) [] hM0 (k_Of a h_a w) sub0 (by kernel_rfl) (fun x1 h2 b3 l4 hn5 A6 cap7 hc8 w9 hM10 => S_val (.int .i64 b) (by kernel_rfl) (S_callB (b) [] hM10 (k_Of b h_b w9) sub0 (by kernel_rfl) (fun x11 h12 b13 l14 hn15 A16 cap17 hc18 w19 hM20 => S_callB (x1 * x11) [(A6, nv l4), (A16, nv l14)] hM20 (k_Times b3 l4 x1 b13 l14 x11 (nv_nb hn5 (by omega)) (nv_nb hn15 (by omega)) A6 (List.length l4) cap7 A16 (List.length l14) cap17 rfl hc8 rfl hc18 w19 (hM20.ent 1 rfl) (hM20.ent 0 rfl)) (subc 1 rfl (subc 0 rfl sub0)) (by kernel_rfl) (fun x21 h22 b23 l24 hn25 A26 cap27 hc28 w29 hM30 => ?_)))))))))))
  have HR := hr_lt HR h2
  have HR := hr_lt HR h12
  have HR := hr_lt HR h22
  have tb_ := mulI_bd h_a h_b h2 h12 h22
  refine S_call (toW x21) (fun r : Int × Bool => .tuple #[.agg #[.int .i64 (wHi r.1), .int .u64 (wLo r.1)], .bool r.2]) hM30 (k_ToWide b23 l24 x21 hn25 A26 (List.length l24) cap27 rfl hc28 (by omega) w29 (hM30.ent 0 rfl)) (by kernel_rfl) (fun r31 h32 w33 hM34 => ?_)
  have HR := hr_lt HR h32
  obtain ⟨r35, b37⟩ := r31
  cases b37
  · refine S_val (.tuple #[.agg #[.int .i64 (wHi r35), .int .u64 (wLo r35)], .bool false]) (by kernel_rfl) (S_val (.agg #[.int .i64 (wHi r35), .int .u64 (wLo r35)]) (by kernel_rfl) (S_val (.bool false) (by kernel_rfl) (S_fresh none #[.int .i64 0, .int .u64 0] 24 hM34 (by kernel_rfl) (fun g38 w39 hM40 => S_store 0 0 #[.int .i64 (wHi r35), .int .u64 (wLo r35)] hM40 (by kernel_rfl) (fun w41 hM42 => S_val (.bool false) (by kernel_rfl) (S_nil (R_seq (R_drawF 20 (by kernel_rfl) (fun F43 U44 hL45 => F_val (.int .i64 a) (fun _ => by kernel_rfl) (F_val (.int .i64 b) (fun _ => by kernel_rfl) (F_call (a * b) (fun r : Int => .agg #[.int .i64 (wHi r), .int .u64 (wLo r)]) hM42 hL45 (fun w' hM' => wMul a b h_a h_b w') (by kernel_rfl) (fun _ => by kernel_rfl) (fun r46 h47 => ?_))))))))))))
    have HR := hr_neg HR Bool.false_ne_true
    have HR := hr_lt HR h47
    refine F_load 0 0 (.agg #[.int .i64 (wHi r35), .int .u64 (wLo r35)]) hM42 (by kernel_rfl) (?_)
    refine F_dec ((r46 : Int) = r35) (fun _ => eqv_W (x := r46) (y := r35) (by kernel_rfl) (by kernel_rfl) (by kernel_rfl)) (fun c48 => ?_) (fun c48 => ?_)
    · refine F_val (.bool true) (fun _ => by kernel_rfl) (F_val (.int .i64 a) (fun _ => by kernel_rfl) (F_val (.int .i64 b) (fun _ => by kernel_rfl) (F_val (.int .i64 c) (fun _ => by kernel_rfl) (F_call (mdN a b c) (fun r : Int => .int .i64 r) hM42 hL45 (fun w' hM' => c_wide_MulDiv a b c h_a h_b h_c w') (by kernel_rfl) (fun _ => by kernel_rfl) (fun r49 h50 => F_val (.int .i64 a) (fun _ => by kernel_rfl) (F_val (.int .i64 b) (fun _ => by kernel_rfl) (F_val (.int .i64 c) (fun _ => by kernel_rfl) (F_call (mdN a b c) (fun r : Int => .int .i64 r) hM42 hL45 (fun w' hM' => k_MulDiv a b c h_a h_b h_c w') (by kernel_rfl) (fun _ => by kernel_rfl) (fun r51 h52 => ?_)))))))))
      have HR := hr_pos HR c48
      have HR := hr_lt HR h50
      have HR := hr_lt HR h52
      refine F_dec (r49 = r51) (fun _ => by kernel_rfl) (fun c53 => ?_) (fun c53 => ?_)
      · refine F_val (.bool true) (fun _ => by kernel_rfl) (F_val (.bool true) (fun _ => by kernel_rfl) (F_call (works01 ) (fun r : Bool => .bool r) hM42 hL45 (fun w' hM' => c_works01  w') (by kernel_rfl) (fun _ => by kernel_rfl) (fun r54 h55 => ?_)))
        have HR := hr_pos HR c53
        have HR := hr_lt HR h55
        cases r54
        · refine F_val (.bool false) (fun _ => by kernel_rfl) (F_val (.bool false) (fun _ => by kernel_rfl) (F_nil hM42 hL45 (fun w56 hM57 => S_nil (?_))))
          have HR := hr_neg HR Bool.false_ne_true
          refine R_ret hM57 rfl (.cons (.tmp _ (.bool false) (by kernel_rfl)) .nil) rfl ?_
          exact ⟨congrArg Ending.returned HR, hM57.below⟩
        · refine F_val (.bool true) (fun _ => by kernel_rfl) (F_val (.bool true) (fun _ => by kernel_rfl) (F_nil hM42 hL45 (fun w58 hM59 => S_nil (?_))))
          have HR := hr_pos HR rfl
          refine R_ret hM59 rfl (.cons (.tmp _ (.bool true) (by kernel_rfl)) .nil) rfl ?_
          exact ⟨congrArg Ending.returned HR, hM59.below⟩
      · refine F_val (.bool false) (fun _ => by kernel_rfl) (F_val (.bool false) (fun _ => by kernel_rfl) (F_skip (by kernel_rfl) (F_val (.bool false) (fun _ => by kernel_rfl) (F_val (.bool false) (fun _ => by kernel_rfl) (F_nil hM42 hL45 (fun w61 hM62 => S_nil (?_)))))))
        have HR := hr_neg HR c53
        refine R_ret hM62 rfl (.cons (.tmp _ (.bool false) (by kernel_rfl)) .nil) rfl ?_
        exact ⟨congrArg Ending.returned HR, hM62.below⟩
    · refine F_val (.bool false) (fun _ => by kernel_rfl) (F_skip (by kernel_rfl) (F_skip (by kernel_rfl) (F_skip (by kernel_rfl) (F_skip (by kernel_rfl) (F_skip (by kernel_rfl) (F_skip (by kernel_rfl) (F_skip (by kernel_rfl) (F_skip (by kernel_rfl) (F_skip (by kernel_rfl) (F_val (.bool false) (fun _ => by kernel_rfl) (F_val (.bool false) (fun _ => by kernel_rfl) (?_))))))))))))
      have HR := hr_neg HR c48
      refine F_skip (by kernel_rfl) (F_val (.bool false) (fun _ => by kernel_rfl) (F_val (.bool false) (fun _ => by kernel_rfl) (F_nil hM42 hL45 (fun w63 hM64 => S_nil (?_)))))
      refine R_ret hM64 rfl (.cons (.tmp _ (.bool false) (by kernel_rfl)) .nil) rfl ?_
      exact ⟨congrArg Ending.returned HR, hM64.below⟩
  · refine S_val (.tuple #[.agg #[.int .i64 (wHi r35), .int .u64 (wLo r35)], .bool true]) (by kernel_rfl) (S_val (.agg #[.int .i64 (wHi r35), .int .u64 (wLo r35)]) (by kernel_rfl) (S_val (.bool true) (by kernel_rfl) (S_fresh none #[.int .i64 0, .int .u64 0] 24 hM34 (by kernel_rfl) (fun g65 w66 hM67 => S_store 0 0 #[.int .i64 (wHi r35), .int .u64 (wLo r35)] hM67 (by kernel_rfl) (fun w68 hM69 => S_val (.bool true) (by kernel_rfl) (S_nil (R_seq (R_drawF 20 (by kernel_rfl) (fun F70 U71 hL72 => F_val (.int .i64 a) (fun _ => by kernel_rfl) (F_val (.int .i64 b) (fun _ => by kernel_rfl) (F_call (a * b) (fun r : Int => .agg #[.int .i64 (wHi r), .int .u64 (wLo r)]) hM69 hL72 (fun w' hM' => wMul a b h_a h_b w') (by kernel_rfl) (fun _ => by kernel_rfl) (fun r73 h74 => ?_))))))))))))
    have HR := hr_pos HR rfl
    have HR := hr_lt HR h74
    refine F_load 0 0 (.agg #[.int .i64 (wHi r35), .int .u64 (wLo r35)]) hM69 (by kernel_rfl) (?_)
    refine F_dec ((r73 : Int) = r35) (fun _ => eqv_W (x := r73) (y := r35) (by kernel_rfl) (by kernel_rfl) (by kernel_rfl)) (fun c75 => ?_) (fun c75 => ?_)
    · refine F_val (.bool true) (fun _ => by kernel_rfl) (F_val (.int .i64 a) (fun _ => by kernel_rfl) (F_val (.int .i64 b) (fun _ => by kernel_rfl) (F_val (.int .i64 c) (fun _ => by kernel_rfl) (F_call (mdN a b c) (fun r : Int => .int .i64 r) hM69 hL72 (fun w' hM' => c_wide_MulDiv a b c h_a h_b h_c w') (by kernel_rfl) (fun _ => by kernel_rfl) (fun r76 h77 => F_val (.int .i64 a) (fun _ => by kernel_rfl) (F_val (.int .i64 b) (fun _ => by kernel_rfl) (F_val (.int .i64 c) (fun _ => by kernel_rfl) (F_call (mdN a b c) (fun r : Int => .int .i64 r) hM69 hL72 (fun w' hM' => k_MulDiv a b c h_a h_b h_c w') (by kernel_rfl) (fun _ => by kernel_rfl) (fun r78 h79 => ?_)))))))))
      have HR := hr_pos HR c75
      have HR := hr_lt HR h77
      have HR := hr_lt HR h79
      refine F_dec (r76 = r78) (fun _ => by kernel_rfl) (fun c80 => ?_) (fun c80 => ?_)
      · refine F_val (.bool true) (fun _ => by kernel_rfl) (F_val (.bool true) (fun _ => by kernel_rfl) (F_call (works01 ) (fun r : Bool => .bool r) hM69 hL72 (fun w' hM' => c_works01  w') (by kernel_rfl) (fun _ => by kernel_rfl) (fun r81 h82 => ?_)))
        have HR := hr_pos HR c80
        have HR := hr_lt HR h82
        cases r81
        · refine F_val (.bool false) (fun _ => by kernel_rfl) (F_val (.bool false) (fun _ => by kernel_rfl) (F_nil hM69 hL72 (fun w83 hM84 => S_nil (?_))))
          have HR := hr_neg HR Bool.false_ne_true
          refine R_ret hM84 rfl (.cons (.tmp _ (.bool false) (by kernel_rfl)) .nil) rfl ?_
          exact ⟨congrArg Ending.returned HR, hM84.below⟩
        · refine F_val (.bool true) (fun _ => by kernel_rfl) (F_val (.bool true) (fun _ => by kernel_rfl) (F_nil hM69 hL72 (fun w85 hM86 => S_nil (?_))))
          have HR := hr_pos HR rfl
          refine R_ret hM86 rfl (.cons (.tmp _ (.bool true) (by kernel_rfl)) .nil) rfl ?_
          exact ⟨congrArg Ending.returned HR, hM86.below⟩
      · refine F_val (.bool false) (fun _ => by kernel_rfl) (F_val (.bool false) (fun _ => by kernel_rfl) (F_skip (by kernel_rfl) (F_val (.bool false) (fun _ => by kernel_rfl) (F_val (.bool false) (fun _ => by kernel_rfl) (F_nil hM69 hL72 (fun w88 hM89 => S_nil (?_)))))))
        have HR := hr_neg HR c80
        refine R_ret hM89 rfl (.cons (.tmp _ (.bool false) (by kernel_rfl)) .nil) rfl ?_
        exact ⟨congrArg Ending.returned HR, hM89.below⟩
    · refine F_val (.bool false) (fun _ => by kernel_rfl) (F_skip (by kernel_rfl) (F_skip (by kernel_rfl) (F_skip (by kernel_rfl) (F_skip (by kernel_rfl) (F_skip (by kernel_rfl) (F_skip (by kernel_rfl) (F_skip (by kernel_rfl) (F_skip (by kernel_rfl) (F_skip (by kernel_rfl) (F_val (.bool false) (fun _ => by kernel_rfl) (F_val (.bool false) (fun _ => by kernel_rfl) (?_))))))))))))
      have HR := hr_neg HR c75
      refine F_skip (by kernel_rfl) (F_val (.bool false) (fun _ => by kernel_rfl) (F_val (.bool false) (fun _ => by kernel_rfl) (F_nil hM69 hL72 (fun w90 hM91 => S_nil (?_)))))
      refine R_ret hM91 rfl (.cons (.tmp _ (.bool false) (by kernel_rfl)) .nil) rfl ?_
      exact ⟨congrArg Ending.returned HR, hM91.below⟩

def e_umbralaw01_WideDivides (r : Bool) : Value := .bool r
def s_umbralaw01_WideDivides (a : Int) (d : Int) (n : Int) : Bool :=
  lt (wdivT a d) fun r4 =>
  if r4.2.2 = true then
    lt (wdivT a d) fun r245 =>
    if r245.2.2 = true then
      lt (gmax n 0) fun x355 =>
      lt (gmin x355 200) fun x357 =>
      lt (a) fun x359 =>
      lt (2 ^ Int.toNat x357) fun x369 =>
      lt (fq x359 x369) fun x379 =>
      lt (fr x359 x369) fun y381 =>
      lt (toW x379) fun r407 =>
      if r407.2 = true then
        if (r4.1 : Int) = r245.1 then
          if r4.2.1 = r245.2.1 then
            lt (shrN a n) fun r450 =>
            if (r450 : Int) = r407.1 then
              lt (works01 ) fun r453 =>
              if r453 = true then
                true
              else
                false
            else
              false
          else
            false
        else
          false
      else
        if (r4.1 : Int) = r245.1 then
          if r4.2.1 = r245.2.1 then
            lt (shrN a n) fun r424 =>
            if (r424 : Int) = r407.1 then
              lt (works01 ) fun r427 =>
              if r427 = true then
                true
              else
                false
            else
              false
          else
            false
        else
          false
    else
      lt (gmax n 0) fun x258 =>
      lt (gmin x258 200) fun x260 =>
      lt (a) fun x262 =>
      lt (2 ^ Int.toNat x260) fun x272 =>
      lt (fq x262 x272) fun x282 =>
      lt (fr x262 x272) fun y284 =>
      lt (toW x282) fun r310 =>
      if r310.2 = true then
        if (r4.1 : Int) = r245.1 then
          if r4.2.1 = r245.2.1 then
            false
          else
            false
        else
          false
      else
        if (r4.1 : Int) = r245.1 then
          if r4.2.1 = r245.2.1 then
            false
          else
            false
        else
          false
  else
    lt (wdivT a d) fun r17 =>
    if r17.2.2 = true then
      lt (gmax n 0) fun x147 =>
      lt (gmin x147 200) fun x149 =>
      lt (a) fun x151 =>
      lt (2 ^ Int.toNat x149) fun x161 =>
      lt (fq x151 x161) fun x171 =>
      lt (fr x151 x161) fun y173 =>
      lt (toW x171) fun r199 =>
      if r199.2 = true then
        if (r4.1 : Int) = r17.1 then
          if r4.2.1 = r17.2.1 then
            false
          else
            false
        else
          false
      else
        if (r4.1 : Int) = r17.1 then
          if r4.2.1 = r17.2.1 then
            false
          else
            false
        else
          false
    else
      lt (gmax n 0) fun x30 =>
      lt (gmin x30 200) fun x32 =>
      lt (a) fun x34 =>
      lt (2 ^ Int.toNat x32) fun x44 =>
      lt (fq x34 x44) fun x54 =>
      lt (fr x34 x44) fun y56 =>
      lt (toW x54) fun r82 =>
      if r82.2 = true then
        if (r4.1 : Int) = r17.1 then
          if r4.2.1 = r17.2.1 then
            lt (shrN a n) fun r125 =>
            if (r125 : Int) = r82.1 then
              lt (works01 ) fun r128 =>
              if r128 = true then
                true
              else
                false
            else
              false
          else
            false
        else
          false
      else
        if (r4.1 : Int) = r17.1 then
          if r4.2.1 = r17.2.1 then
            lt (shrN a n) fun r99 =>
            if (r99 : Int) = r82.1 then
              lt (works01 ) fun r102 =>
              if r102 = true then
                true
              else
                false
            else
              false
          else
            false
        else
          false
set_option maxRecDepth 100000 in
set_option maxHeartbeats 4000000 in
theorem w_umbralaw01_WideDivides (a : Int) (d : Int) (n : Int) (h_a : InW a) (h_d : InI d) (h_n : InI n) (w : World) : Calls Try.prog 7 #[.agg #[.int .i64 (wHi a), .int .u64 (wLo a)], .int .i64 d, .int .i64 n] w (Ret (e_umbralaw01_WideDivides (s_umbralaw01_WideDivides a d n)) w) := by
  obtain ⟨R, HR⟩ : ∃ R, e_umbralaw01_WideDivides (s_umbralaw01_WideDivides a d n) = R := ⟨_, rfl⟩
  rw [HR]
  unfold s_umbralaw01_WideDivides at HR
  have hM0 := St.startN (w := w) [] ents0
  refine calls_run Try.func7 rfl ?_
  have i_a := h_a; unfold InW at i_a
  have i_d := h_d; unfold InI at i_d
  have i_n := h_n; unfold InI at i_n
  refine R_seq (R_region (S_fresh none #[.int .i64 (wHi a), .int .u64 (wLo a)] 24 hM0 (by kernel_rfl) (fun g1 w2 hM3 => S_val (.bool false) (by kernel_rfl) (S_nil (R_seq (R_region (S_load 0 0 (.agg #[.int .i64 (wHi a), .int .u64 (wLo a)]) hM3 (by kernel_rfl) (S_val (.int .i64 d) (by kernel_rfl) (S_call (wdivT a d) (fun r : Int × Int × Bool => .tuple #[.agg #[.int .i64 (wHi r.1), .int .u64 (wLo r.1)], .int .i64 r.2.1, .bool r.2.2]) hM3 (c_wide_Div a d h_a h_d w2) (by kernel_rfl) (fun r4 h5 w6 hM7 => ?_))))))))))
  have HR := hr_lt HR h5
  obtain ⟨r8, r9, b11⟩ := r4
  cases b11
  · refine S_val (.tuple #[.agg #[.int .i64 (wHi r8), .int .u64 (wLo r8)], .int .i64 r9, .bool false]) (by kernel_rfl) (S_val (.agg #[.int .i64 (wHi r8), .int .u64 (wLo r8)]) (by kernel_rfl) (S_val (.int .i64 r9) (by kernel_rfl) (S_val (.bool false) (by kernel_rfl) (S_fresh none #[.int .i64 0, .int .u64 0] 24 hM7 (by kernel_rfl) (fun g12 w13 hM14 => S_store 0 0 #[.int .i64 (wHi r8), .int .u64 (wLo r8)] hM14 (by kernel_rfl) (fun w15 hM16 => S_val (.int .i64 r9) (by kernel_rfl) (S_val (.bool false) (by kernel_rfl) (S_nil (R_seq (R_region (S_load 1 0 (.agg #[.int .i64 (wHi a), .int .u64 (wLo a)]) hM16 (by kernel_rfl) (?_))))))))))))
    have HR := hr_neg HR Bool.false_ne_true
    refine S_val (.int .i64 d) (by kernel_rfl) (S_call (wdivT a d) (fun r : Int × Int × Bool => .tuple #[.agg #[.int .i64 (wHi r.1), .int .u64 (wLo r.1)], .int .i64 r.2.1, .bool r.2.2]) hM16 (k_Div a d h_a h_d w15) (by kernel_rfl) (fun r17 h18 w19 hM20 => ?_))
    have HR := hr_lt HR h18
    obtain ⟨r21, r22, b24⟩ := r17
    cases b24
    · refine S_val (.tuple #[.agg #[.int .i64 (wHi r21), .int .u64 (wLo r21)], .int .i64 r22, .bool false]) (by kernel_rfl) (S_val (.agg #[.int .i64 (wHi r21), .int .u64 (wLo r21)]) (by kernel_rfl) (S_val (.int .i64 r22) (by kernel_rfl) (S_val (.bool false) (by kernel_rfl) (S_fresh none #[.int .i64 0, .int .u64 0] 24 hM20 (by kernel_rfl) (fun g25 w26 hM27 => S_store 0 0 #[.int .i64 (wHi r21), .int .u64 (wLo r21)] hM27 (by kernel_rfl) (fun w28 hM29 => S_val (.int .i64 r22) (by kernel_rfl) (S_val (.bool false) (by kernel_rfl) (S_nil (R_seq (R_region (S_val (.int .i64 n) (by kernel_rfl) (?_))))))))))))
      have HR := hr_neg HR Bool.false_ne_true
      refine S_int (gmax n 0) .i64 (by kernel_rfl) (fun x30 h31 => S_int (gmin x30 200) .i64 (by kernel_rfl) (fun x32 h33 => S_val (.int .i64 x32) (by kernel_rfl) (S_nil (R_seq (R_region (S_load 2 0 (.agg #[.int .i64 (wHi a), .int .u64 (wLo a)]) hM29 (by kernel_rfl) (S_callB (a) [] hM29 (k_Wide a h_a w28) sub0 (by kernel_rfl) (fun x34 h35 b36 l37 hn38 A39 cap40 hc41 w42 hM43 => S_val (.int .i64 x32) (by kernel_rfl) (?_)))))))))
      have HR := hr_lt HR h31
      have HR := hr_lt HR h33
      have HR := hr_lt HR h35
      have hw_x32 := h33; rw [gmin_eq] at hw_x32
      have hw_x30 := h31; rw [gmax_eq] at hw_x30
      refine S_callB (2 ^ Int.toNat x32) [] hM43 (k_Power x32 (by omega) w42) sub0 (by kernel_rfl) (fun x44 h45 b46 l47 hn48 A49 cap50 hc51 w52 hM53 => ?_)
      have HR := hr_lt HR h45
      have pb_ := p2le (n := x32) (by omega)
      rw [h45] at pb_
      refine S_callBB (fq x34 x44) (fr x34 x44) [(A39, nv l37), (A49, nv l47)] hM53 (k_Quotient b36 l37 x34 b46 l47 x44 hn38 hn48 A39 (List.length l37) cap40 A49 (List.length l47) cap50 rfl hc41 rfl hc51 (by omega) (by omega) (by omega) w52 (hM53.ent 1 rfl) (hM53.ent 0 rfl)) (subc 1 rfl (subc 0 rfl sub0)) (by kernel_rfl) (fun x54 h55 y56 h57 b58 l59 hn60 b61 l62 hn63 A64 cap65 A66 cap67 hc68 hc69 w70 hM71 => ?_)
      have HR := hr_lt HR h55
      have HR := hr_lt HR h57
      have qb_ := fq_abs x34 x44
      rw [h55, absI_eq] at qb_
      refine S_val (.tuple #[.agg #[.bool b58, .slice A64 (List.length l59) cap65], .agg #[.bool b61, .slice A66 (List.length l62) cap67]]) (by kernel_rfl) (S_val (.agg #[.bool b58, .slice A64 (List.length l59) cap65]) (by kernel_rfl) (S_val (.agg #[.bool b61, .slice A66 (List.length l62) cap67]) (by kernel_rfl) (S_fresh none #[.bool false, .slice none 0 0] 29 hM71 (by kernel_rfl) (fun g72 w73 hM74 => S_fresh none #[.bool false, .slice none 0 0] 29 hM74 (by kernel_rfl) (fun g75 w76 hM77 => S_store 1 0 #[.bool b58, .slice A64 (List.length l59) cap65] hM77 (by kernel_rfl) (fun w78 hM79 => S_store 0 0 #[.bool b61, .slice A66 (List.length l62) cap67] hM79 (by kernel_rfl) (fun w80 hM81 => S_nil (R_seq (R_region (S_load 1 0 (.agg #[.bool b58, .slice A64 (List.length l59) cap65]) hM81 (by kernel_rfl) (S_call (toW x54) (fun r : Int × Bool => .tuple #[.agg #[.int .i64 (wHi r.1), .int .u64 (wLo r.1)], .bool r.2]) hM81 (k_ToWide b58 l59 x54 hn60 A64 (List.length l59) cap65 rfl hc68 (by omega) w80 (hM81.ent 0 rfl)) (by kernel_rfl) (fun r82 h83 w84 hM85 => ?_))))))))))))
      have HR := hr_lt HR h83
      obtain ⟨r86, b88⟩ := r82
      cases b88
      · refine S_val (.tuple #[.agg #[.int .i64 (wHi r86), .int .u64 (wLo r86)], .bool false]) (by kernel_rfl) (S_val (.agg #[.int .i64 (wHi r86), .int .u64 (wLo r86)]) (by kernel_rfl) (S_val (.bool false) (by kernel_rfl) (S_fresh none #[.int .i64 0, .int .u64 0] 24 hM85 (by kernel_rfl) (fun g89 w90 hM91 => S_store 0 0 #[.int .i64 (wHi r86), .int .u64 (wLo r86)] hM91 (by kernel_rfl) (fun w92 hM93 => S_val (.bool false) (by kernel_rfl) (S_nil (R_seq (R_drawF 24 (by kernel_rfl) (fun F94 U95 hL96 => F_load 4 0 (.agg #[.int .i64 (wHi r8), .int .u64 (wLo r8)]) hM93 (by kernel_rfl) (F_load 3 0 (.agg #[.int .i64 (wHi r21), .int .u64 (wLo r21)]) hM93 (by kernel_rfl) (?_)))))))))))
        have HR := hr_neg HR Bool.false_ne_true
        refine F_dec ((r8 : Int) = r21) (fun _ => eqv_W (x := r8) (y := r21) (by kernel_rfl) (by kernel_rfl) (by kernel_rfl)) (fun c97 => ?_) (fun c97 => ?_)
        · refine F_val (.bool true) (fun _ => by kernel_rfl) (F_val (.int .i64 r9) (fun _ => by kernel_rfl) (F_val (.int .i64 r22) (fun _ => by kernel_rfl) (?_)))
          have HR := hr_pos HR c97
          refine F_dec (r9 = r22) (fun _ => by kernel_rfl) (fun c98 => ?_) (fun c98 => ?_)
          · refine F_val (.bool true) (fun _ => by kernel_rfl) (F_val (.bool true) (fun _ => by kernel_rfl) (F_val (.bool false) (fun _ => by kernel_rfl) (F_val (.bool false) (fun _ => by kernel_rfl) (F_val (.bool true) (fun _ => by kernel_rfl) (F_val (.bool true) (fun _ => by kernel_rfl) (F_val (.bool true) (fun _ => by kernel_rfl) (F_load 5 0 (.agg #[.int .i64 (wHi a), .int .u64 (wLo a)]) hM93 (by kernel_rfl) (F_val (.int .i64 n) (fun _ => by kernel_rfl) (F_call (shrN a n) (fun r : Int => .agg #[.int .i64 (wHi r), .int .u64 (wLo r)]) hM93 hL96 (fun w' hM' => c_wide_Shr a n h_a h_n w') (by kernel_rfl) (fun _ => by kernel_rfl) (fun r99 h100 => F_load 0 0 (.agg #[.int .i64 (wHi r86), .int .u64 (wLo r86)]) hM93 (by kernel_rfl) (?_)))))))))))
            have HR := hr_pos HR c98
            have HR := hr_lt HR h100
            refine F_dec ((r99 : Int) = r86) (fun _ => eqv_W (x := r99) (y := r86) (by kernel_rfl) (by kernel_rfl) (by kernel_rfl)) (fun c101 => ?_) (fun c101 => ?_)
            · refine F_val (.bool true) (fun _ => by kernel_rfl) (F_val (.bool true) (fun _ => by kernel_rfl) (F_call (works01 ) (fun r : Bool => .bool r) hM93 hL96 (fun w' hM' => c_works01  w') (by kernel_rfl) (fun _ => by kernel_rfl) (fun r102 h103 => ?_)))
              have HR := hr_pos HR c101
              have HR := hr_lt HR h103
              cases r102
              · refine F_val (.bool false) (fun _ => by kernel_rfl) (F_val (.bool false) (fun _ => by kernel_rfl) (F_nil hM93 hL96 (fun w104 hM105 => S_nil (?_))))
                have HR := hr_neg HR Bool.false_ne_true
                refine R_ret hM105 rfl (.cons (.tmp _ (.bool false) (by kernel_rfl)) .nil) rfl ?_
                exact ⟨congrArg Ending.returned HR, hM105.below⟩
              · refine F_val (.bool true) (fun _ => by kernel_rfl) (F_val (.bool true) (fun _ => by kernel_rfl) (F_nil hM93 hL96 (fun w106 hM107 => S_nil (?_))))
                have HR := hr_pos HR rfl
                refine R_ret hM107 rfl (.cons (.tmp _ (.bool true) (by kernel_rfl)) .nil) rfl ?_
                exact ⟨congrArg Ending.returned HR, hM107.below⟩
            · refine F_val (.bool false) (fun _ => by kernel_rfl) (F_val (.bool false) (fun _ => by kernel_rfl) (F_skip (by kernel_rfl) (F_val (.bool false) (fun _ => by kernel_rfl) (F_val (.bool false) (fun _ => by kernel_rfl) (F_nil hM93 hL96 (fun w109 hM110 => S_nil (?_)))))))
              have HR := hr_neg HR c101
              refine R_ret hM110 rfl (.cons (.tmp _ (.bool false) (by kernel_rfl)) .nil) rfl ?_
              exact ⟨congrArg Ending.returned HR, hM110.below⟩
          · refine F_val (.bool false) (fun _ => by kernel_rfl) (F_val (.bool false) (fun _ => by kernel_rfl) (F_skip (by kernel_rfl) (F_skip (by kernel_rfl) (F_skip (by kernel_rfl) (F_val (.bool false) (fun _ => by kernel_rfl) (F_val (.bool false) (fun _ => by kernel_rfl) (F_skip (by kernel_rfl) (F_skip (by kernel_rfl) (F_skip (by kernel_rfl) (F_skip (by kernel_rfl) (F_skip (by kernel_rfl) (?_))))))))))))
            have HR := hr_neg HR c98
            refine F_val (.bool false) (fun _ => by kernel_rfl) (F_val (.bool false) (fun _ => by kernel_rfl) (F_skip (by kernel_rfl) (F_val (.bool false) (fun _ => by kernel_rfl) (F_val (.bool false) (fun _ => by kernel_rfl) (F_nil hM93 hL96 (fun w111 hM112 => S_nil (?_)))))))
            refine R_ret hM112 rfl (.cons (.tmp _ (.bool false) (by kernel_rfl)) .nil) rfl ?_
            exact ⟨congrArg Ending.returned HR, hM112.below⟩
        · refine F_val (.bool false) (fun _ => by kernel_rfl) (F_skip (by kernel_rfl) (F_skip (by kernel_rfl) (F_skip (by kernel_rfl) (F_val (.bool false) (fun _ => by kernel_rfl) (F_val (.bool false) (fun _ => by kernel_rfl) (F_skip (by kernel_rfl) (F_skip (by kernel_rfl) (F_skip (by kernel_rfl) (F_val (.bool false) (fun _ => by kernel_rfl) (F_val (.bool false) (fun _ => by kernel_rfl) (F_skip (by kernel_rfl) (?_))))))))))))
          have HR := hr_neg HR c97
          refine F_skip (by kernel_rfl) (F_skip (by kernel_rfl) (F_skip (by kernel_rfl) (F_skip (by kernel_rfl) (F_val (.bool false) (fun _ => by kernel_rfl) (F_val (.bool false) (fun _ => by kernel_rfl) (F_skip (by kernel_rfl) (F_val (.bool false) (fun _ => by kernel_rfl) (F_val (.bool false) (fun _ => by kernel_rfl) (F_nil hM93 hL96 (fun w113 hM114 => S_nil (?_)))))))))))
          refine R_ret hM114 rfl (.cons (.tmp _ (.bool false) (by kernel_rfl)) .nil) rfl ?_
          exact ⟨congrArg Ending.returned HR, hM114.below⟩
      · refine S_val (.tuple #[.agg #[.int .i64 (wHi r86), .int .u64 (wLo r86)], .bool true]) (by kernel_rfl) (S_val (.agg #[.int .i64 (wHi r86), .int .u64 (wLo r86)]) (by kernel_rfl) (S_val (.bool true) (by kernel_rfl) (S_fresh none #[.int .i64 0, .int .u64 0] 24 hM85 (by kernel_rfl) (fun g115 w116 hM117 => S_store 0 0 #[.int .i64 (wHi r86), .int .u64 (wLo r86)] hM117 (by kernel_rfl) (fun w118 hM119 => S_val (.bool true) (by kernel_rfl) (S_nil (R_seq (R_drawF 24 (by kernel_rfl) (fun F120 U121 hL122 => F_load 4 0 (.agg #[.int .i64 (wHi r8), .int .u64 (wLo r8)]) hM119 (by kernel_rfl) (F_load 3 0 (.agg #[.int .i64 (wHi r21), .int .u64 (wLo r21)]) hM119 (by kernel_rfl) (?_)))))))))))
        have HR := hr_pos HR rfl
        refine F_dec ((r8 : Int) = r21) (fun _ => eqv_W (x := r8) (y := r21) (by kernel_rfl) (by kernel_rfl) (by kernel_rfl)) (fun c123 => ?_) (fun c123 => ?_)
        · refine F_val (.bool true) (fun _ => by kernel_rfl) (F_val (.int .i64 r9) (fun _ => by kernel_rfl) (F_val (.int .i64 r22) (fun _ => by kernel_rfl) (?_)))
          have HR := hr_pos HR c123
          refine F_dec (r9 = r22) (fun _ => by kernel_rfl) (fun c124 => ?_) (fun c124 => ?_)
          · refine F_val (.bool true) (fun _ => by kernel_rfl) (F_val (.bool true) (fun _ => by kernel_rfl) (F_val (.bool false) (fun _ => by kernel_rfl) (F_val (.bool false) (fun _ => by kernel_rfl) (F_val (.bool true) (fun _ => by kernel_rfl) (F_val (.bool true) (fun _ => by kernel_rfl) (F_val (.bool true) (fun _ => by kernel_rfl) (F_load 5 0 (.agg #[.int .i64 (wHi a), .int .u64 (wLo a)]) hM119 (by kernel_rfl) (F_val (.int .i64 n) (fun _ => by kernel_rfl) (F_call (shrN a n) (fun r : Int => .agg #[.int .i64 (wHi r), .int .u64 (wLo r)]) hM119 hL122 (fun w' hM' => c_wide_Shr a n h_a h_n w') (by kernel_rfl) (fun _ => by kernel_rfl) (fun r125 h126 => F_load 0 0 (.agg #[.int .i64 (wHi r86), .int .u64 (wLo r86)]) hM119 (by kernel_rfl) (?_)))))))))))
            have HR := hr_pos HR c124
            have HR := hr_lt HR h126
            refine F_dec ((r125 : Int) = r86) (fun _ => eqv_W (x := r125) (y := r86) (by kernel_rfl) (by kernel_rfl) (by kernel_rfl)) (fun c127 => ?_) (fun c127 => ?_)
            · refine F_val (.bool true) (fun _ => by kernel_rfl) (F_val (.bool true) (fun _ => by kernel_rfl) (F_call (works01 ) (fun r : Bool => .bool r) hM119 hL122 (fun w' hM' => c_works01  w') (by kernel_rfl) (fun _ => by kernel_rfl) (fun r128 h129 => ?_)))
              have HR := hr_pos HR c127
              have HR := hr_lt HR h129
              cases r128
              · refine F_val (.bool false) (fun _ => by kernel_rfl) (F_val (.bool false) (fun _ => by kernel_rfl) (F_nil hM119 hL122 (fun w130 hM131 => S_nil (?_))))
                have HR := hr_neg HR Bool.false_ne_true
                refine R_ret hM131 rfl (.cons (.tmp _ (.bool false) (by kernel_rfl)) .nil) rfl ?_
                exact ⟨congrArg Ending.returned HR, hM131.below⟩
              · refine F_val (.bool true) (fun _ => by kernel_rfl) (F_val (.bool true) (fun _ => by kernel_rfl) (F_nil hM119 hL122 (fun w132 hM133 => S_nil (?_))))
                have HR := hr_pos HR rfl
                refine R_ret hM133 rfl (.cons (.tmp _ (.bool true) (by kernel_rfl)) .nil) rfl ?_
                exact ⟨congrArg Ending.returned HR, hM133.below⟩
            · refine F_val (.bool false) (fun _ => by kernel_rfl) (F_val (.bool false) (fun _ => by kernel_rfl) (F_skip (by kernel_rfl) (F_val (.bool false) (fun _ => by kernel_rfl) (F_val (.bool false) (fun _ => by kernel_rfl) (F_nil hM119 hL122 (fun w135 hM136 => S_nil (?_)))))))
              have HR := hr_neg HR c127
              refine R_ret hM136 rfl (.cons (.tmp _ (.bool false) (by kernel_rfl)) .nil) rfl ?_
              exact ⟨congrArg Ending.returned HR, hM136.below⟩
          · refine F_val (.bool false) (fun _ => by kernel_rfl) (F_val (.bool false) (fun _ => by kernel_rfl) (F_skip (by kernel_rfl) (F_skip (by kernel_rfl) (F_skip (by kernel_rfl) (F_val (.bool false) (fun _ => by kernel_rfl) (F_val (.bool false) (fun _ => by kernel_rfl) (F_skip (by kernel_rfl) (F_skip (by kernel_rfl) (F_skip (by kernel_rfl) (F_skip (by kernel_rfl) (F_skip (by kernel_rfl) (?_))))))))))))
            have HR := hr_neg HR c124
            refine F_val (.bool false) (fun _ => by kernel_rfl) (F_val (.bool false) (fun _ => by kernel_rfl) (F_skip (by kernel_rfl) (F_val (.bool false) (fun _ => by kernel_rfl) (F_val (.bool false) (fun _ => by kernel_rfl) (F_nil hM119 hL122 (fun w137 hM138 => S_nil (?_)))))))
            refine R_ret hM138 rfl (.cons (.tmp _ (.bool false) (by kernel_rfl)) .nil) rfl ?_
            exact ⟨congrArg Ending.returned HR, hM138.below⟩
        · refine F_val (.bool false) (fun _ => by kernel_rfl) (F_skip (by kernel_rfl) (F_skip (by kernel_rfl) (F_skip (by kernel_rfl) (F_val (.bool false) (fun _ => by kernel_rfl) (F_val (.bool false) (fun _ => by kernel_rfl) (F_skip (by kernel_rfl) (F_skip (by kernel_rfl) (F_skip (by kernel_rfl) (F_val (.bool false) (fun _ => by kernel_rfl) (F_val (.bool false) (fun _ => by kernel_rfl) (F_skip (by kernel_rfl) (?_))))))))))))
          have HR := hr_neg HR c123
          refine F_skip (by kernel_rfl) (F_skip (by kernel_rfl) (F_skip (by kernel_rfl) (F_skip (by kernel_rfl) (F_val (.bool false) (fun _ => by kernel_rfl) (F_val (.bool false) (fun _ => by kernel_rfl) (F_skip (by kernel_rfl) (F_val (.bool false) (fun _ => by kernel_rfl) (F_val (.bool false) (fun _ => by kernel_rfl) (F_nil hM119 hL122 (fun w139 hM140 => S_nil (?_)))))))))))
          refine R_ret hM140 rfl (.cons (.tmp _ (.bool false) (by kernel_rfl)) .nil) rfl ?_
          exact ⟨congrArg Ending.returned HR, hM140.below⟩
    · refine S_val (.tuple #[.agg #[.int .i64 (wHi r21), .int .u64 (wLo r21)], .int .i64 r22, .bool true]) (by kernel_rfl) (S_val (.agg #[.int .i64 (wHi r21), .int .u64 (wLo r21)]) (by kernel_rfl) (S_val (.int .i64 r22) (by kernel_rfl) (S_val (.bool true) (by kernel_rfl) (S_fresh none #[.int .i64 0, .int .u64 0] 24 hM20 (by kernel_rfl) (fun g142 w143 hM144 => S_store 0 0 #[.int .i64 (wHi r21), .int .u64 (wLo r21)] hM144 (by kernel_rfl) (fun w145 hM146 => S_val (.int .i64 r22) (by kernel_rfl) (S_val (.bool true) (by kernel_rfl) (S_nil (R_seq (R_region (S_val (.int .i64 n) (by kernel_rfl) (?_))))))))))))
      have HR := hr_pos HR rfl
      refine S_int (gmax n 0) .i64 (by kernel_rfl) (fun x147 h148 => S_int (gmin x147 200) .i64 (by kernel_rfl) (fun x149 h150 => S_val (.int .i64 x149) (by kernel_rfl) (S_nil (R_seq (R_region (S_load 2 0 (.agg #[.int .i64 (wHi a), .int .u64 (wLo a)]) hM146 (by kernel_rfl) (S_callB (a) [] hM146 (k_Wide a h_a w145) sub0 (by kernel_rfl) (fun x151 h152 b153 l154 hn155 A156 cap157 hc158 w159 hM160 => S_val (.int .i64 x149) (by kernel_rfl) (?_)))))))))
      have HR := hr_lt HR h148
      have HR := hr_lt HR h150
      have HR := hr_lt HR h152
      have hw_x149 := h150; rw [gmin_eq] at hw_x149
      have hw_x147 := h148; rw [gmax_eq] at hw_x147
      refine S_callB (2 ^ Int.toNat x149) [] hM160 (k_Power x149 (by omega) w159) sub0 (by kernel_rfl) (fun x161 h162 b163 l164 hn165 A166 cap167 hc168 w169 hM170 => ?_)
      have HR := hr_lt HR h162
      have pb_ := p2le (n := x149) (by omega)
      rw [h162] at pb_
      refine S_callBB (fq x151 x161) (fr x151 x161) [(A156, nv l154), (A166, nv l164)] hM170 (k_Quotient b153 l154 x151 b163 l164 x161 hn155 hn165 A156 (List.length l154) cap157 A166 (List.length l164) cap167 rfl hc158 rfl hc168 (by omega) (by omega) (by omega) w169 (hM170.ent 1 rfl) (hM170.ent 0 rfl)) (subc 1 rfl (subc 0 rfl sub0)) (by kernel_rfl) (fun x171 h172 y173 h174 b175 l176 hn177 b178 l179 hn180 A181 cap182 A183 cap184 hc185 hc186 w187 hM188 => ?_)
      have HR := hr_lt HR h172
      have HR := hr_lt HR h174
      have qb_ := fq_abs x151 x161
      rw [h172, absI_eq] at qb_
      refine S_val (.tuple #[.agg #[.bool b175, .slice A181 (List.length l176) cap182], .agg #[.bool b178, .slice A183 (List.length l179) cap184]]) (by kernel_rfl) (S_val (.agg #[.bool b175, .slice A181 (List.length l176) cap182]) (by kernel_rfl) (S_val (.agg #[.bool b178, .slice A183 (List.length l179) cap184]) (by kernel_rfl) (S_fresh none #[.bool false, .slice none 0 0] 29 hM188 (by kernel_rfl) (fun g189 w190 hM191 => S_fresh none #[.bool false, .slice none 0 0] 29 hM191 (by kernel_rfl) (fun g192 w193 hM194 => S_store 1 0 #[.bool b175, .slice A181 (List.length l176) cap182] hM194 (by kernel_rfl) (fun w195 hM196 => S_store 0 0 #[.bool b178, .slice A183 (List.length l179) cap184] hM196 (by kernel_rfl) (fun w197 hM198 => S_nil (R_seq (R_region (S_load 1 0 (.agg #[.bool b175, .slice A181 (List.length l176) cap182]) hM198 (by kernel_rfl) (S_call (toW x171) (fun r : Int × Bool => .tuple #[.agg #[.int .i64 (wHi r.1), .int .u64 (wLo r.1)], .bool r.2]) hM198 (k_ToWide b175 l176 x171 hn177 A181 (List.length l176) cap182 rfl hc185 (by omega) w197 (hM198.ent 0 rfl)) (by kernel_rfl) (fun r199 h200 w201 hM202 => ?_))))))))))))
      have HR := hr_lt HR h200
      obtain ⟨r203, b205⟩ := r199
      cases b205
      · refine S_val (.tuple #[.agg #[.int .i64 (wHi r203), .int .u64 (wLo r203)], .bool false]) (by kernel_rfl) (S_val (.agg #[.int .i64 (wHi r203), .int .u64 (wLo r203)]) (by kernel_rfl) (S_val (.bool false) (by kernel_rfl) (S_fresh none #[.int .i64 0, .int .u64 0] 24 hM202 (by kernel_rfl) (fun g206 w207 hM208 => S_store 0 0 #[.int .i64 (wHi r203), .int .u64 (wLo r203)] hM208 (by kernel_rfl) (fun w209 hM210 => S_val (.bool false) (by kernel_rfl) (S_nil (R_seq (R_drawF 24 (by kernel_rfl) (fun F211 U212 hL213 => F_load 4 0 (.agg #[.int .i64 (wHi r8), .int .u64 (wLo r8)]) hM210 (by kernel_rfl) (F_load 3 0 (.agg #[.int .i64 (wHi r21), .int .u64 (wLo r21)]) hM210 (by kernel_rfl) (?_)))))))))))
        have HR := hr_neg HR Bool.false_ne_true
        refine F_dec ((r8 : Int) = r21) (fun _ => eqv_W (x := r8) (y := r21) (by kernel_rfl) (by kernel_rfl) (by kernel_rfl)) (fun c214 => ?_) (fun c214 => ?_)
        · refine F_val (.bool true) (fun _ => by kernel_rfl) (F_val (.int .i64 r9) (fun _ => by kernel_rfl) (F_val (.int .i64 r22) (fun _ => by kernel_rfl) (?_)))
          have HR := hr_pos HR c214
          refine F_dec (r9 = r22) (fun _ => by kernel_rfl) (fun c215 => ?_) (fun c215 => ?_)
          · refine F_val (.bool true) (fun _ => by kernel_rfl) (F_val (.bool true) (fun _ => by kernel_rfl) (F_val (.bool false) (fun _ => by kernel_rfl) (F_val (.bool true) (fun _ => by kernel_rfl) (F_val (.bool false) (fun _ => by kernel_rfl) (F_val (.bool false) (fun _ => by kernel_rfl) (F_val (.bool false) (fun _ => by kernel_rfl) (F_skip (by kernel_rfl) (F_skip (by kernel_rfl) (F_skip (by kernel_rfl) (F_skip (by kernel_rfl) (F_skip (by kernel_rfl) (?_))))))))))))
            have HR := hr_pos HR c215
            refine F_val (.bool false) (fun _ => by kernel_rfl) (F_val (.bool false) (fun _ => by kernel_rfl) (F_skip (by kernel_rfl) (F_val (.bool false) (fun _ => by kernel_rfl) (F_val (.bool false) (fun _ => by kernel_rfl) (F_nil hM210 hL213 (fun w216 hM217 => S_nil (?_)))))))
            refine R_ret hM217 rfl (.cons (.tmp _ (.bool false) (by kernel_rfl)) .nil) rfl ?_
            exact ⟨congrArg Ending.returned HR, hM217.below⟩
          · refine F_val (.bool false) (fun _ => by kernel_rfl) (F_val (.bool false) (fun _ => by kernel_rfl) (F_skip (by kernel_rfl) (F_skip (by kernel_rfl) (F_skip (by kernel_rfl) (F_val (.bool false) (fun _ => by kernel_rfl) (F_val (.bool false) (fun _ => by kernel_rfl) (F_skip (by kernel_rfl) (F_skip (by kernel_rfl) (F_skip (by kernel_rfl) (F_skip (by kernel_rfl) (F_skip (by kernel_rfl) (?_))))))))))))
            have HR := hr_neg HR c215
            refine F_val (.bool false) (fun _ => by kernel_rfl) (F_val (.bool false) (fun _ => by kernel_rfl) (F_skip (by kernel_rfl) (F_val (.bool false) (fun _ => by kernel_rfl) (F_val (.bool false) (fun _ => by kernel_rfl) (F_nil hM210 hL213 (fun w218 hM219 => S_nil (?_)))))))
            refine R_ret hM219 rfl (.cons (.tmp _ (.bool false) (by kernel_rfl)) .nil) rfl ?_
            exact ⟨congrArg Ending.returned HR, hM219.below⟩
        · refine F_val (.bool false) (fun _ => by kernel_rfl) (F_skip (by kernel_rfl) (F_skip (by kernel_rfl) (F_skip (by kernel_rfl) (F_val (.bool false) (fun _ => by kernel_rfl) (F_val (.bool false) (fun _ => by kernel_rfl) (F_skip (by kernel_rfl) (F_skip (by kernel_rfl) (F_skip (by kernel_rfl) (F_val (.bool false) (fun _ => by kernel_rfl) (F_val (.bool false) (fun _ => by kernel_rfl) (F_skip (by kernel_rfl) (?_))))))))))))
          have HR := hr_neg HR c214
          refine F_skip (by kernel_rfl) (F_skip (by kernel_rfl) (F_skip (by kernel_rfl) (F_skip (by kernel_rfl) (F_val (.bool false) (fun _ => by kernel_rfl) (F_val (.bool false) (fun _ => by kernel_rfl) (F_skip (by kernel_rfl) (F_val (.bool false) (fun _ => by kernel_rfl) (F_val (.bool false) (fun _ => by kernel_rfl) (F_nil hM210 hL213 (fun w220 hM221 => S_nil (?_)))))))))))
          refine R_ret hM221 rfl (.cons (.tmp _ (.bool false) (by kernel_rfl)) .nil) rfl ?_
          exact ⟨congrArg Ending.returned HR, hM221.below⟩
      · refine S_val (.tuple #[.agg #[.int .i64 (wHi r203), .int .u64 (wLo r203)], .bool true]) (by kernel_rfl) (S_val (.agg #[.int .i64 (wHi r203), .int .u64 (wLo r203)]) (by kernel_rfl) (S_val (.bool true) (by kernel_rfl) (S_fresh none #[.int .i64 0, .int .u64 0] 24 hM202 (by kernel_rfl) (fun g222 w223 hM224 => S_store 0 0 #[.int .i64 (wHi r203), .int .u64 (wLo r203)] hM224 (by kernel_rfl) (fun w225 hM226 => S_val (.bool true) (by kernel_rfl) (S_nil (R_seq (R_drawF 24 (by kernel_rfl) (fun F227 U228 hL229 => F_load 4 0 (.agg #[.int .i64 (wHi r8), .int .u64 (wLo r8)]) hM226 (by kernel_rfl) (F_load 3 0 (.agg #[.int .i64 (wHi r21), .int .u64 (wLo r21)]) hM226 (by kernel_rfl) (?_)))))))))))
        have HR := hr_pos HR rfl
        refine F_dec ((r8 : Int) = r21) (fun _ => eqv_W (x := r8) (y := r21) (by kernel_rfl) (by kernel_rfl) (by kernel_rfl)) (fun c230 => ?_) (fun c230 => ?_)
        · refine F_val (.bool true) (fun _ => by kernel_rfl) (F_val (.int .i64 r9) (fun _ => by kernel_rfl) (F_val (.int .i64 r22) (fun _ => by kernel_rfl) (?_)))
          have HR := hr_pos HR c230
          refine F_dec (r9 = r22) (fun _ => by kernel_rfl) (fun c231 => ?_) (fun c231 => ?_)
          · refine F_val (.bool true) (fun _ => by kernel_rfl) (F_val (.bool true) (fun _ => by kernel_rfl) (F_val (.bool false) (fun _ => by kernel_rfl) (F_val (.bool true) (fun _ => by kernel_rfl) (F_val (.bool false) (fun _ => by kernel_rfl) (F_val (.bool false) (fun _ => by kernel_rfl) (F_val (.bool false) (fun _ => by kernel_rfl) (F_skip (by kernel_rfl) (F_skip (by kernel_rfl) (F_skip (by kernel_rfl) (F_skip (by kernel_rfl) (F_skip (by kernel_rfl) (?_))))))))))))
            have HR := hr_pos HR c231
            refine F_val (.bool false) (fun _ => by kernel_rfl) (F_val (.bool false) (fun _ => by kernel_rfl) (F_skip (by kernel_rfl) (F_val (.bool false) (fun _ => by kernel_rfl) (F_val (.bool false) (fun _ => by kernel_rfl) (F_nil hM226 hL229 (fun w232 hM233 => S_nil (?_)))))))
            refine R_ret hM233 rfl (.cons (.tmp _ (.bool false) (by kernel_rfl)) .nil) rfl ?_
            exact ⟨congrArg Ending.returned HR, hM233.below⟩
          · refine F_val (.bool false) (fun _ => by kernel_rfl) (F_val (.bool false) (fun _ => by kernel_rfl) (F_skip (by kernel_rfl) (F_skip (by kernel_rfl) (F_skip (by kernel_rfl) (F_val (.bool false) (fun _ => by kernel_rfl) (F_val (.bool false) (fun _ => by kernel_rfl) (F_skip (by kernel_rfl) (F_skip (by kernel_rfl) (F_skip (by kernel_rfl) (F_skip (by kernel_rfl) (F_skip (by kernel_rfl) (?_))))))))))))
            have HR := hr_neg HR c231
            refine F_val (.bool false) (fun _ => by kernel_rfl) (F_val (.bool false) (fun _ => by kernel_rfl) (F_skip (by kernel_rfl) (F_val (.bool false) (fun _ => by kernel_rfl) (F_val (.bool false) (fun _ => by kernel_rfl) (F_nil hM226 hL229 (fun w234 hM235 => S_nil (?_)))))))
            refine R_ret hM235 rfl (.cons (.tmp _ (.bool false) (by kernel_rfl)) .nil) rfl ?_
            exact ⟨congrArg Ending.returned HR, hM235.below⟩
        · refine F_val (.bool false) (fun _ => by kernel_rfl) (F_skip (by kernel_rfl) (F_skip (by kernel_rfl) (F_skip (by kernel_rfl) (F_val (.bool false) (fun _ => by kernel_rfl) (F_val (.bool false) (fun _ => by kernel_rfl) (F_skip (by kernel_rfl) (F_skip (by kernel_rfl) (F_skip (by kernel_rfl) (F_val (.bool false) (fun _ => by kernel_rfl) (F_val (.bool false) (fun _ => by kernel_rfl) (F_skip (by kernel_rfl) (?_))))))))))))
          have HR := hr_neg HR c230
          refine F_skip (by kernel_rfl) (F_skip (by kernel_rfl) (F_skip (by kernel_rfl) (F_skip (by kernel_rfl) (F_val (.bool false) (fun _ => by kernel_rfl) (F_val (.bool false) (fun _ => by kernel_rfl) (F_skip (by kernel_rfl) (F_val (.bool false) (fun _ => by kernel_rfl) (F_val (.bool false) (fun _ => by kernel_rfl) (F_nil hM226 hL229 (fun w236 hM237 => S_nil (?_)))))))))))
          refine R_ret hM237 rfl (.cons (.tmp _ (.bool false) (by kernel_rfl)) .nil) rfl ?_
          exact ⟨congrArg Ending.returned HR, hM237.below⟩
  · refine S_val (.tuple #[.agg #[.int .i64 (wHi r8), .int .u64 (wLo r8)], .int .i64 r9, .bool true]) (by kernel_rfl) (S_val (.agg #[.int .i64 (wHi r8), .int .u64 (wLo r8)]) (by kernel_rfl) (S_val (.int .i64 r9) (by kernel_rfl) (S_val (.bool true) (by kernel_rfl) (S_fresh none #[.int .i64 0, .int .u64 0] 24 hM7 (by kernel_rfl) (fun g240 w241 hM242 => S_store 0 0 #[.int .i64 (wHi r8), .int .u64 (wLo r8)] hM242 (by kernel_rfl) (fun w243 hM244 => S_val (.int .i64 r9) (by kernel_rfl) (S_val (.bool true) (by kernel_rfl) (S_nil (R_seq (R_region (S_load 1 0 (.agg #[.int .i64 (wHi a), .int .u64 (wLo a)]) hM244 (by kernel_rfl) (?_))))))))))))
    have HR := hr_pos HR rfl
    refine S_val (.int .i64 d) (by kernel_rfl) (S_call (wdivT a d) (fun r : Int × Int × Bool => .tuple #[.agg #[.int .i64 (wHi r.1), .int .u64 (wLo r.1)], .int .i64 r.2.1, .bool r.2.2]) hM244 (k_Div a d h_a h_d w243) (by kernel_rfl) (fun r245 h246 w247 hM248 => ?_))
    have HR := hr_lt HR h246
    obtain ⟨r249, r250, b252⟩ := r245
    cases b252
    · refine S_val (.tuple #[.agg #[.int .i64 (wHi r249), .int .u64 (wLo r249)], .int .i64 r250, .bool false]) (by kernel_rfl) (S_val (.agg #[.int .i64 (wHi r249), .int .u64 (wLo r249)]) (by kernel_rfl) (S_val (.int .i64 r250) (by kernel_rfl) (S_val (.bool false) (by kernel_rfl) (S_fresh none #[.int .i64 0, .int .u64 0] 24 hM248 (by kernel_rfl) (fun g253 w254 hM255 => S_store 0 0 #[.int .i64 (wHi r249), .int .u64 (wLo r249)] hM255 (by kernel_rfl) (fun w256 hM257 => S_val (.int .i64 r250) (by kernel_rfl) (S_val (.bool false) (by kernel_rfl) (S_nil (R_seq (R_region (S_val (.int .i64 n) (by kernel_rfl) (?_))))))))))))
      have HR := hr_neg HR Bool.false_ne_true
      refine S_int (gmax n 0) .i64 (by kernel_rfl) (fun x258 h259 => S_int (gmin x258 200) .i64 (by kernel_rfl) (fun x260 h261 => S_val (.int .i64 x260) (by kernel_rfl) (S_nil (R_seq (R_region (S_load 2 0 (.agg #[.int .i64 (wHi a), .int .u64 (wLo a)]) hM257 (by kernel_rfl) (S_callB (a) [] hM257 (k_Wide a h_a w256) sub0 (by kernel_rfl) (fun x262 h263 b264 l265 hn266 A267 cap268 hc269 w270 hM271 => S_val (.int .i64 x260) (by kernel_rfl) (?_)))))))))
      have HR := hr_lt HR h259
      have HR := hr_lt HR h261
      have HR := hr_lt HR h263
      have hw_x260 := h261; rw [gmin_eq] at hw_x260
      have hw_x258 := h259; rw [gmax_eq] at hw_x258
      refine S_callB (2 ^ Int.toNat x260) [] hM271 (k_Power x260 (by omega) w270) sub0 (by kernel_rfl) (fun x272 h273 b274 l275 hn276 A277 cap278 hc279 w280 hM281 => ?_)
      have HR := hr_lt HR h273
      have pb_ := p2le (n := x260) (by omega)
      rw [h273] at pb_
      refine S_callBB (fq x262 x272) (fr x262 x272) [(A267, nv l265), (A277, nv l275)] hM281 (k_Quotient b264 l265 x262 b274 l275 x272 hn266 hn276 A267 (List.length l265) cap268 A277 (List.length l275) cap278 rfl hc269 rfl hc279 (by omega) (by omega) (by omega) w280 (hM281.ent 1 rfl) (hM281.ent 0 rfl)) (subc 1 rfl (subc 0 rfl sub0)) (by kernel_rfl) (fun x282 h283 y284 h285 b286 l287 hn288 b289 l290 hn291 A292 cap293 A294 cap295 hc296 hc297 w298 hM299 => ?_)
      have HR := hr_lt HR h283
      have HR := hr_lt HR h285
      have qb_ := fq_abs x262 x272
      rw [h283, absI_eq] at qb_
      refine S_val (.tuple #[.agg #[.bool b286, .slice A292 (List.length l287) cap293], .agg #[.bool b289, .slice A294 (List.length l290) cap295]]) (by kernel_rfl) (S_val (.agg #[.bool b286, .slice A292 (List.length l287) cap293]) (by kernel_rfl) (S_val (.agg #[.bool b289, .slice A294 (List.length l290) cap295]) (by kernel_rfl) (S_fresh none #[.bool false, .slice none 0 0] 29 hM299 (by kernel_rfl) (fun g300 w301 hM302 => S_fresh none #[.bool false, .slice none 0 0] 29 hM302 (by kernel_rfl) (fun g303 w304 hM305 => S_store 1 0 #[.bool b286, .slice A292 (List.length l287) cap293] hM305 (by kernel_rfl) (fun w306 hM307 => S_store 0 0 #[.bool b289, .slice A294 (List.length l290) cap295] hM307 (by kernel_rfl) (fun w308 hM309 => S_nil (R_seq (R_region (S_load 1 0 (.agg #[.bool b286, .slice A292 (List.length l287) cap293]) hM309 (by kernel_rfl) (S_call (toW x282) (fun r : Int × Bool => .tuple #[.agg #[.int .i64 (wHi r.1), .int .u64 (wLo r.1)], .bool r.2]) hM309 (k_ToWide b286 l287 x282 hn288 A292 (List.length l287) cap293 rfl hc296 (by omega) w308 (hM309.ent 0 rfl)) (by kernel_rfl) (fun r310 h311 w312 hM313 => ?_))))))))))))
      have HR := hr_lt HR h311
      obtain ⟨r314, b316⟩ := r310
      cases b316
      · refine S_val (.tuple #[.agg #[.int .i64 (wHi r314), .int .u64 (wLo r314)], .bool false]) (by kernel_rfl) (S_val (.agg #[.int .i64 (wHi r314), .int .u64 (wLo r314)]) (by kernel_rfl) (S_val (.bool false) (by kernel_rfl) (S_fresh none #[.int .i64 0, .int .u64 0] 24 hM313 (by kernel_rfl) (fun g317 w318 hM319 => S_store 0 0 #[.int .i64 (wHi r314), .int .u64 (wLo r314)] hM319 (by kernel_rfl) (fun w320 hM321 => S_val (.bool false) (by kernel_rfl) (S_nil (R_seq (R_drawF 24 (by kernel_rfl) (fun F322 U323 hL324 => F_load 4 0 (.agg #[.int .i64 (wHi r8), .int .u64 (wLo r8)]) hM321 (by kernel_rfl) (F_load 3 0 (.agg #[.int .i64 (wHi r249), .int .u64 (wLo r249)]) hM321 (by kernel_rfl) (?_)))))))))))
        have HR := hr_neg HR Bool.false_ne_true
        refine F_dec ((r8 : Int) = r249) (fun _ => eqv_W (x := r8) (y := r249) (by kernel_rfl) (by kernel_rfl) (by kernel_rfl)) (fun c325 => ?_) (fun c325 => ?_)
        · refine F_val (.bool true) (fun _ => by kernel_rfl) (F_val (.int .i64 r9) (fun _ => by kernel_rfl) (F_val (.int .i64 r250) (fun _ => by kernel_rfl) (?_)))
          have HR := hr_pos HR c325
          refine F_dec (r9 = r250) (fun _ => by kernel_rfl) (fun c326 => ?_) (fun c326 => ?_)
          · refine F_val (.bool true) (fun _ => by kernel_rfl) (F_val (.bool true) (fun _ => by kernel_rfl) (F_val (.bool true) (fun _ => by kernel_rfl) (F_val (.bool false) (fun _ => by kernel_rfl) (F_val (.bool false) (fun _ => by kernel_rfl) (F_val (.bool false) (fun _ => by kernel_rfl) (F_val (.bool false) (fun _ => by kernel_rfl) (F_skip (by kernel_rfl) (F_skip (by kernel_rfl) (F_skip (by kernel_rfl) (F_skip (by kernel_rfl) (F_skip (by kernel_rfl) (?_))))))))))))
            have HR := hr_pos HR c326
            refine F_val (.bool false) (fun _ => by kernel_rfl) (F_val (.bool false) (fun _ => by kernel_rfl) (F_skip (by kernel_rfl) (F_val (.bool false) (fun _ => by kernel_rfl) (F_val (.bool false) (fun _ => by kernel_rfl) (F_nil hM321 hL324 (fun w327 hM328 => S_nil (?_)))))))
            refine R_ret hM328 rfl (.cons (.tmp _ (.bool false) (by kernel_rfl)) .nil) rfl ?_
            exact ⟨congrArg Ending.returned HR, hM328.below⟩
          · refine F_val (.bool false) (fun _ => by kernel_rfl) (F_val (.bool false) (fun _ => by kernel_rfl) (F_skip (by kernel_rfl) (F_skip (by kernel_rfl) (F_skip (by kernel_rfl) (F_val (.bool false) (fun _ => by kernel_rfl) (F_val (.bool false) (fun _ => by kernel_rfl) (F_skip (by kernel_rfl) (F_skip (by kernel_rfl) (F_skip (by kernel_rfl) (F_skip (by kernel_rfl) (F_skip (by kernel_rfl) (?_))))))))))))
            have HR := hr_neg HR c326
            refine F_val (.bool false) (fun _ => by kernel_rfl) (F_val (.bool false) (fun _ => by kernel_rfl) (F_skip (by kernel_rfl) (F_val (.bool false) (fun _ => by kernel_rfl) (F_val (.bool false) (fun _ => by kernel_rfl) (F_nil hM321 hL324 (fun w329 hM330 => S_nil (?_)))))))
            refine R_ret hM330 rfl (.cons (.tmp _ (.bool false) (by kernel_rfl)) .nil) rfl ?_
            exact ⟨congrArg Ending.returned HR, hM330.below⟩
        · refine F_val (.bool false) (fun _ => by kernel_rfl) (F_skip (by kernel_rfl) (F_skip (by kernel_rfl) (F_skip (by kernel_rfl) (F_val (.bool false) (fun _ => by kernel_rfl) (F_val (.bool false) (fun _ => by kernel_rfl) (F_skip (by kernel_rfl) (F_skip (by kernel_rfl) (F_skip (by kernel_rfl) (F_val (.bool false) (fun _ => by kernel_rfl) (F_val (.bool false) (fun _ => by kernel_rfl) (F_skip (by kernel_rfl) (?_))))))))))))
          have HR := hr_neg HR c325
          refine F_skip (by kernel_rfl) (F_skip (by kernel_rfl) (F_skip (by kernel_rfl) (F_skip (by kernel_rfl) (F_val (.bool false) (fun _ => by kernel_rfl) (F_val (.bool false) (fun _ => by kernel_rfl) (F_skip (by kernel_rfl) (F_val (.bool false) (fun _ => by kernel_rfl) (F_val (.bool false) (fun _ => by kernel_rfl) (F_nil hM321 hL324 (fun w331 hM332 => S_nil (?_)))))))))))
          refine R_ret hM332 rfl (.cons (.tmp _ (.bool false) (by kernel_rfl)) .nil) rfl ?_
          exact ⟨congrArg Ending.returned HR, hM332.below⟩
      · refine S_val (.tuple #[.agg #[.int .i64 (wHi r314), .int .u64 (wLo r314)], .bool true]) (by kernel_rfl) (S_val (.agg #[.int .i64 (wHi r314), .int .u64 (wLo r314)]) (by kernel_rfl) (S_val (.bool true) (by kernel_rfl) (S_fresh none #[.int .i64 0, .int .u64 0] 24 hM313 (by kernel_rfl) (fun g333 w334 hM335 => S_store 0 0 #[.int .i64 (wHi r314), .int .u64 (wLo r314)] hM335 (by kernel_rfl) (fun w336 hM337 => S_val (.bool true) (by kernel_rfl) (S_nil (R_seq (R_drawF 24 (by kernel_rfl) (fun F338 U339 hL340 => F_load 4 0 (.agg #[.int .i64 (wHi r8), .int .u64 (wLo r8)]) hM337 (by kernel_rfl) (F_load 3 0 (.agg #[.int .i64 (wHi r249), .int .u64 (wLo r249)]) hM337 (by kernel_rfl) (?_)))))))))))
        have HR := hr_pos HR rfl
        refine F_dec ((r8 : Int) = r249) (fun _ => eqv_W (x := r8) (y := r249) (by kernel_rfl) (by kernel_rfl) (by kernel_rfl)) (fun c341 => ?_) (fun c341 => ?_)
        · refine F_val (.bool true) (fun _ => by kernel_rfl) (F_val (.int .i64 r9) (fun _ => by kernel_rfl) (F_val (.int .i64 r250) (fun _ => by kernel_rfl) (?_)))
          have HR := hr_pos HR c341
          refine F_dec (r9 = r250) (fun _ => by kernel_rfl) (fun c342 => ?_) (fun c342 => ?_)
          · refine F_val (.bool true) (fun _ => by kernel_rfl) (F_val (.bool true) (fun _ => by kernel_rfl) (F_val (.bool true) (fun _ => by kernel_rfl) (F_val (.bool false) (fun _ => by kernel_rfl) (F_val (.bool false) (fun _ => by kernel_rfl) (F_val (.bool false) (fun _ => by kernel_rfl) (F_val (.bool false) (fun _ => by kernel_rfl) (F_skip (by kernel_rfl) (F_skip (by kernel_rfl) (F_skip (by kernel_rfl) (F_skip (by kernel_rfl) (F_skip (by kernel_rfl) (?_))))))))))))
            have HR := hr_pos HR c342
            refine F_val (.bool false) (fun _ => by kernel_rfl) (F_val (.bool false) (fun _ => by kernel_rfl) (F_skip (by kernel_rfl) (F_val (.bool false) (fun _ => by kernel_rfl) (F_val (.bool false) (fun _ => by kernel_rfl) (F_nil hM337 hL340 (fun w343 hM344 => S_nil (?_)))))))
            refine R_ret hM344 rfl (.cons (.tmp _ (.bool false) (by kernel_rfl)) .nil) rfl ?_
            exact ⟨congrArg Ending.returned HR, hM344.below⟩
          · refine F_val (.bool false) (fun _ => by kernel_rfl) (F_val (.bool false) (fun _ => by kernel_rfl) (F_skip (by kernel_rfl) (F_skip (by kernel_rfl) (F_skip (by kernel_rfl) (F_val (.bool false) (fun _ => by kernel_rfl) (F_val (.bool false) (fun _ => by kernel_rfl) (F_skip (by kernel_rfl) (F_skip (by kernel_rfl) (F_skip (by kernel_rfl) (F_skip (by kernel_rfl) (F_skip (by kernel_rfl) (?_))))))))))))
            have HR := hr_neg HR c342
            refine F_val (.bool false) (fun _ => by kernel_rfl) (F_val (.bool false) (fun _ => by kernel_rfl) (F_skip (by kernel_rfl) (F_val (.bool false) (fun _ => by kernel_rfl) (F_val (.bool false) (fun _ => by kernel_rfl) (F_nil hM337 hL340 (fun w345 hM346 => S_nil (?_)))))))
            refine R_ret hM346 rfl (.cons (.tmp _ (.bool false) (by kernel_rfl)) .nil) rfl ?_
            exact ⟨congrArg Ending.returned HR, hM346.below⟩
        · refine F_val (.bool false) (fun _ => by kernel_rfl) (F_skip (by kernel_rfl) (F_skip (by kernel_rfl) (F_skip (by kernel_rfl) (F_val (.bool false) (fun _ => by kernel_rfl) (F_val (.bool false) (fun _ => by kernel_rfl) (F_skip (by kernel_rfl) (F_skip (by kernel_rfl) (F_skip (by kernel_rfl) (F_val (.bool false) (fun _ => by kernel_rfl) (F_val (.bool false) (fun _ => by kernel_rfl) (F_skip (by kernel_rfl) (?_))))))))))))
          have HR := hr_neg HR c341
          refine F_skip (by kernel_rfl) (F_skip (by kernel_rfl) (F_skip (by kernel_rfl) (F_skip (by kernel_rfl) (F_val (.bool false) (fun _ => by kernel_rfl) (F_val (.bool false) (fun _ => by kernel_rfl) (F_skip (by kernel_rfl) (F_val (.bool false) (fun _ => by kernel_rfl) (F_val (.bool false) (fun _ => by kernel_rfl) (F_nil hM337 hL340 (fun w347 hM348 => S_nil (?_)))))))))))
          refine R_ret hM348 rfl (.cons (.tmp _ (.bool false) (by kernel_rfl)) .nil) rfl ?_
          exact ⟨congrArg Ending.returned HR, hM348.below⟩
    · refine S_val (.tuple #[.agg #[.int .i64 (wHi r249), .int .u64 (wLo r249)], .int .i64 r250, .bool true]) (by kernel_rfl) (S_val (.agg #[.int .i64 (wHi r249), .int .u64 (wLo r249)]) (by kernel_rfl) (S_val (.int .i64 r250) (by kernel_rfl) (S_val (.bool true) (by kernel_rfl) (S_fresh none #[.int .i64 0, .int .u64 0] 24 hM248 (by kernel_rfl) (fun g350 w351 hM352 => S_store 0 0 #[.int .i64 (wHi r249), .int .u64 (wLo r249)] hM352 (by kernel_rfl) (fun w353 hM354 => S_val (.int .i64 r250) (by kernel_rfl) (S_val (.bool true) (by kernel_rfl) (S_nil (R_seq (R_region (S_val (.int .i64 n) (by kernel_rfl) (?_))))))))))))
      have HR := hr_pos HR rfl
      refine S_int (gmax n 0) .i64 (by kernel_rfl) (fun x355 h356 => S_int (gmin x355 200) .i64 (by kernel_rfl) (fun x357 h358 => S_val (.int .i64 x357) (by kernel_rfl) (S_nil (R_seq (R_region (S_load 2 0 (.agg #[.int .i64 (wHi a), .int .u64 (wLo a)]) hM354 (by kernel_rfl) (S_callB (a) [] hM354 (k_Wide a h_a w353) sub0 (by kernel_rfl) (fun x359 h360 b361 l362 hn363 A364 cap365 hc366 w367 hM368 => S_val (.int .i64 x357) (by kernel_rfl) (?_)))))))))
      have HR := hr_lt HR h356
      have HR := hr_lt HR h358
      have HR := hr_lt HR h360
      have hw_x357 := h358; rw [gmin_eq] at hw_x357
      have hw_x355 := h356; rw [gmax_eq] at hw_x355
      refine S_callB (2 ^ Int.toNat x357) [] hM368 (k_Power x357 (by omega) w367) sub0 (by kernel_rfl) (fun x369 h370 b371 l372 hn373 A374 cap375 hc376 w377 hM378 => ?_)
      have HR := hr_lt HR h370
      have pb_ := p2le (n := x357) (by omega)
      rw [h370] at pb_
      refine S_callBB (fq x359 x369) (fr x359 x369) [(A364, nv l362), (A374, nv l372)] hM378 (k_Quotient b361 l362 x359 b371 l372 x369 hn363 hn373 A364 (List.length l362) cap365 A374 (List.length l372) cap375 rfl hc366 rfl hc376 (by omega) (by omega) (by omega) w377 (hM378.ent 1 rfl) (hM378.ent 0 rfl)) (subc 1 rfl (subc 0 rfl sub0)) (by kernel_rfl) (fun x379 h380 y381 h382 b383 l384 hn385 b386 l387 hn388 A389 cap390 A391 cap392 hc393 hc394 w395 hM396 => ?_)
      have HR := hr_lt HR h380
      have HR := hr_lt HR h382
      have qb_ := fq_abs x359 x369
      rw [h380, absI_eq] at qb_
      refine S_val (.tuple #[.agg #[.bool b383, .slice A389 (List.length l384) cap390], .agg #[.bool b386, .slice A391 (List.length l387) cap392]]) (by kernel_rfl) (S_val (.agg #[.bool b383, .slice A389 (List.length l384) cap390]) (by kernel_rfl) (S_val (.agg #[.bool b386, .slice A391 (List.length l387) cap392]) (by kernel_rfl) (S_fresh none #[.bool false, .slice none 0 0] 29 hM396 (by kernel_rfl) (fun g397 w398 hM399 => S_fresh none #[.bool false, .slice none 0 0] 29 hM399 (by kernel_rfl) (fun g400 w401 hM402 => S_store 1 0 #[.bool b383, .slice A389 (List.length l384) cap390] hM402 (by kernel_rfl) (fun w403 hM404 => S_store 0 0 #[.bool b386, .slice A391 (List.length l387) cap392] hM404 (by kernel_rfl) (fun w405 hM406 => S_nil (R_seq (R_region (S_load 1 0 (.agg #[.bool b383, .slice A389 (List.length l384) cap390]) hM406 (by kernel_rfl) (S_call (toW x379) (fun r : Int × Bool => .tuple #[.agg #[.int .i64 (wHi r.1), .int .u64 (wLo r.1)], .bool r.2]) hM406 (k_ToWide b383 l384 x379 hn385 A389 (List.length l384) cap390 rfl hc393 (by omega) w405 (hM406.ent 0 rfl)) (by kernel_rfl) (fun r407 h408 w409 hM410 => ?_))))))))))))
      have HR := hr_lt HR h408
      obtain ⟨r411, b413⟩ := r407
      cases b413
      · refine S_val (.tuple #[.agg #[.int .i64 (wHi r411), .int .u64 (wLo r411)], .bool false]) (by kernel_rfl) (S_val (.agg #[.int .i64 (wHi r411), .int .u64 (wLo r411)]) (by kernel_rfl) (S_val (.bool false) (by kernel_rfl) (S_fresh none #[.int .i64 0, .int .u64 0] 24 hM410 (by kernel_rfl) (fun g414 w415 hM416 => S_store 0 0 #[.int .i64 (wHi r411), .int .u64 (wLo r411)] hM416 (by kernel_rfl) (fun w417 hM418 => S_val (.bool false) (by kernel_rfl) (S_nil (R_seq (R_drawF 24 (by kernel_rfl) (fun F419 U420 hL421 => F_load 4 0 (.agg #[.int .i64 (wHi r8), .int .u64 (wLo r8)]) hM418 (by kernel_rfl) (F_load 3 0 (.agg #[.int .i64 (wHi r249), .int .u64 (wLo r249)]) hM418 (by kernel_rfl) (?_)))))))))))
        have HR := hr_neg HR Bool.false_ne_true
        refine F_dec ((r8 : Int) = r249) (fun _ => eqv_W (x := r8) (y := r249) (by kernel_rfl) (by kernel_rfl) (by kernel_rfl)) (fun c422 => ?_) (fun c422 => ?_)
        · refine F_val (.bool true) (fun _ => by kernel_rfl) (F_val (.int .i64 r9) (fun _ => by kernel_rfl) (F_val (.int .i64 r250) (fun _ => by kernel_rfl) (?_)))
          have HR := hr_pos HR c422
          refine F_dec (r9 = r250) (fun _ => by kernel_rfl) (fun c423 => ?_) (fun c423 => ?_)
          · refine F_val (.bool true) (fun _ => by kernel_rfl) (F_val (.bool true) (fun _ => by kernel_rfl) (F_val (.bool true) (fun _ => by kernel_rfl) (F_val (.bool true) (fun _ => by kernel_rfl) (F_val (.bool true) (fun _ => by kernel_rfl) (F_val (.bool true) (fun _ => by kernel_rfl) (F_val (.bool true) (fun _ => by kernel_rfl) (F_load 5 0 (.agg #[.int .i64 (wHi a), .int .u64 (wLo a)]) hM418 (by kernel_rfl) (F_val (.int .i64 n) (fun _ => by kernel_rfl) (F_call (shrN a n) (fun r : Int => .agg #[.int .i64 (wHi r), .int .u64 (wLo r)]) hM418 hL421 (fun w' hM' => c_wide_Shr a n h_a h_n w') (by kernel_rfl) (fun _ => by kernel_rfl) (fun r424 h425 => F_load 0 0 (.agg #[.int .i64 (wHi r411), .int .u64 (wLo r411)]) hM418 (by kernel_rfl) (?_)))))))))))
            have HR := hr_pos HR c423
            have HR := hr_lt HR h425
            refine F_dec ((r424 : Int) = r411) (fun _ => eqv_W (x := r424) (y := r411) (by kernel_rfl) (by kernel_rfl) (by kernel_rfl)) (fun c426 => ?_) (fun c426 => ?_)
            · refine F_val (.bool true) (fun _ => by kernel_rfl) (F_val (.bool true) (fun _ => by kernel_rfl) (F_call (works01 ) (fun r : Bool => .bool r) hM418 hL421 (fun w' hM' => c_works01  w') (by kernel_rfl) (fun _ => by kernel_rfl) (fun r427 h428 => ?_)))
              have HR := hr_pos HR c426
              have HR := hr_lt HR h428
              cases r427
              · refine F_val (.bool false) (fun _ => by kernel_rfl) (F_val (.bool false) (fun _ => by kernel_rfl) (F_nil hM418 hL421 (fun w429 hM430 => S_nil (?_))))
                have HR := hr_neg HR Bool.false_ne_true
                refine R_ret hM430 rfl (.cons (.tmp _ (.bool false) (by kernel_rfl)) .nil) rfl ?_
                exact ⟨congrArg Ending.returned HR, hM430.below⟩
              · refine F_val (.bool true) (fun _ => by kernel_rfl) (F_val (.bool true) (fun _ => by kernel_rfl) (F_nil hM418 hL421 (fun w431 hM432 => S_nil (?_))))
                have HR := hr_pos HR rfl
                refine R_ret hM432 rfl (.cons (.tmp _ (.bool true) (by kernel_rfl)) .nil) rfl ?_
                exact ⟨congrArg Ending.returned HR, hM432.below⟩
            · refine F_val (.bool false) (fun _ => by kernel_rfl) (F_val (.bool false) (fun _ => by kernel_rfl) (F_skip (by kernel_rfl) (F_val (.bool false) (fun _ => by kernel_rfl) (F_val (.bool false) (fun _ => by kernel_rfl) (F_nil hM418 hL421 (fun w434 hM435 => S_nil (?_)))))))
              have HR := hr_neg HR c426
              refine R_ret hM435 rfl (.cons (.tmp _ (.bool false) (by kernel_rfl)) .nil) rfl ?_
              exact ⟨congrArg Ending.returned HR, hM435.below⟩
          · refine F_val (.bool false) (fun _ => by kernel_rfl) (F_val (.bool false) (fun _ => by kernel_rfl) (F_skip (by kernel_rfl) (F_skip (by kernel_rfl) (F_skip (by kernel_rfl) (F_val (.bool false) (fun _ => by kernel_rfl) (F_val (.bool false) (fun _ => by kernel_rfl) (F_skip (by kernel_rfl) (F_skip (by kernel_rfl) (F_skip (by kernel_rfl) (F_skip (by kernel_rfl) (F_skip (by kernel_rfl) (?_))))))))))))
            have HR := hr_neg HR c423
            refine F_val (.bool false) (fun _ => by kernel_rfl) (F_val (.bool false) (fun _ => by kernel_rfl) (F_skip (by kernel_rfl) (F_val (.bool false) (fun _ => by kernel_rfl) (F_val (.bool false) (fun _ => by kernel_rfl) (F_nil hM418 hL421 (fun w436 hM437 => S_nil (?_)))))))
            refine R_ret hM437 rfl (.cons (.tmp _ (.bool false) (by kernel_rfl)) .nil) rfl ?_
            exact ⟨congrArg Ending.returned HR, hM437.below⟩
        · refine F_val (.bool false) (fun _ => by kernel_rfl) (F_skip (by kernel_rfl) (F_skip (by kernel_rfl) (F_skip (by kernel_rfl) (F_val (.bool false) (fun _ => by kernel_rfl) (F_val (.bool false) (fun _ => by kernel_rfl) (F_skip (by kernel_rfl) (F_skip (by kernel_rfl) (F_skip (by kernel_rfl) (F_val (.bool false) (fun _ => by kernel_rfl) (F_val (.bool false) (fun _ => by kernel_rfl) (F_skip (by kernel_rfl) (?_))))))))))))
          have HR := hr_neg HR c422
          refine F_skip (by kernel_rfl) (F_skip (by kernel_rfl) (F_skip (by kernel_rfl) (F_skip (by kernel_rfl) (F_val (.bool false) (fun _ => by kernel_rfl) (F_val (.bool false) (fun _ => by kernel_rfl) (F_skip (by kernel_rfl) (F_val (.bool false) (fun _ => by kernel_rfl) (F_val (.bool false) (fun _ => by kernel_rfl) (F_nil hM418 hL421 (fun w438 hM439 => S_nil (?_)))))))))))
          refine R_ret hM439 rfl (.cons (.tmp _ (.bool false) (by kernel_rfl)) .nil) rfl ?_
          exact ⟨congrArg Ending.returned HR, hM439.below⟩
      · refine S_val (.tuple #[.agg #[.int .i64 (wHi r411), .int .u64 (wLo r411)], .bool true]) (by kernel_rfl) (S_val (.agg #[.int .i64 (wHi r411), .int .u64 (wLo r411)]) (by kernel_rfl) (S_val (.bool true) (by kernel_rfl) (S_fresh none #[.int .i64 0, .int .u64 0] 24 hM410 (by kernel_rfl) (fun g440 w441 hM442 => S_store 0 0 #[.int .i64 (wHi r411), .int .u64 (wLo r411)] hM442 (by kernel_rfl) (fun w443 hM444 => S_val (.bool true) (by kernel_rfl) (S_nil (R_seq (R_drawF 24 (by kernel_rfl) (fun F445 U446 hL447 => F_load 4 0 (.agg #[.int .i64 (wHi r8), .int .u64 (wLo r8)]) hM444 (by kernel_rfl) (F_load 3 0 (.agg #[.int .i64 (wHi r249), .int .u64 (wLo r249)]) hM444 (by kernel_rfl) (?_)))))))))))
        have HR := hr_pos HR rfl
        refine F_dec ((r8 : Int) = r249) (fun _ => eqv_W (x := r8) (y := r249) (by kernel_rfl) (by kernel_rfl) (by kernel_rfl)) (fun c448 => ?_) (fun c448 => ?_)
        · refine F_val (.bool true) (fun _ => by kernel_rfl) (F_val (.int .i64 r9) (fun _ => by kernel_rfl) (F_val (.int .i64 r250) (fun _ => by kernel_rfl) (?_)))
          have HR := hr_pos HR c448
          refine F_dec (r9 = r250) (fun _ => by kernel_rfl) (fun c449 => ?_) (fun c449 => ?_)
          · refine F_val (.bool true) (fun _ => by kernel_rfl) (F_val (.bool true) (fun _ => by kernel_rfl) (F_val (.bool true) (fun _ => by kernel_rfl) (F_val (.bool true) (fun _ => by kernel_rfl) (F_val (.bool true) (fun _ => by kernel_rfl) (F_val (.bool true) (fun _ => by kernel_rfl) (F_val (.bool true) (fun _ => by kernel_rfl) (F_load 5 0 (.agg #[.int .i64 (wHi a), .int .u64 (wLo a)]) hM444 (by kernel_rfl) (F_val (.int .i64 n) (fun _ => by kernel_rfl) (F_call (shrN a n) (fun r : Int => .agg #[.int .i64 (wHi r), .int .u64 (wLo r)]) hM444 hL447 (fun w' hM' => c_wide_Shr a n h_a h_n w') (by kernel_rfl) (fun _ => by kernel_rfl) (fun r450 h451 => F_load 0 0 (.agg #[.int .i64 (wHi r411), .int .u64 (wLo r411)]) hM444 (by kernel_rfl) (?_)))))))))))
            have HR := hr_pos HR c449
            have HR := hr_lt HR h451
            refine F_dec ((r450 : Int) = r411) (fun _ => eqv_W (x := r450) (y := r411) (by kernel_rfl) (by kernel_rfl) (by kernel_rfl)) (fun c452 => ?_) (fun c452 => ?_)
            · refine F_val (.bool true) (fun _ => by kernel_rfl) (F_val (.bool true) (fun _ => by kernel_rfl) (F_call (works01 ) (fun r : Bool => .bool r) hM444 hL447 (fun w' hM' => c_works01  w') (by kernel_rfl) (fun _ => by kernel_rfl) (fun r453 h454 => ?_)))
              have HR := hr_pos HR c452
              have HR := hr_lt HR h454
              cases r453
              · refine F_val (.bool false) (fun _ => by kernel_rfl) (F_val (.bool false) (fun _ => by kernel_rfl) (F_nil hM444 hL447 (fun w455 hM456 => S_nil (?_))))
                have HR := hr_neg HR Bool.false_ne_true
                refine R_ret hM456 rfl (.cons (.tmp _ (.bool false) (by kernel_rfl)) .nil) rfl ?_
                exact ⟨congrArg Ending.returned HR, hM456.below⟩
              · refine F_val (.bool true) (fun _ => by kernel_rfl) (F_val (.bool true) (fun _ => by kernel_rfl) (F_nil hM444 hL447 (fun w457 hM458 => S_nil (?_))))
                have HR := hr_pos HR rfl
                refine R_ret hM458 rfl (.cons (.tmp _ (.bool true) (by kernel_rfl)) .nil) rfl ?_
                exact ⟨congrArg Ending.returned HR, hM458.below⟩
            · refine F_val (.bool false) (fun _ => by kernel_rfl) (F_val (.bool false) (fun _ => by kernel_rfl) (F_skip (by kernel_rfl) (F_val (.bool false) (fun _ => by kernel_rfl) (F_val (.bool false) (fun _ => by kernel_rfl) (F_nil hM444 hL447 (fun w460 hM461 => S_nil (?_)))))))
              have HR := hr_neg HR c452
              refine R_ret hM461 rfl (.cons (.tmp _ (.bool false) (by kernel_rfl)) .nil) rfl ?_
              exact ⟨congrArg Ending.returned HR, hM461.below⟩
          · refine F_val (.bool false) (fun _ => by kernel_rfl) (F_val (.bool false) (fun _ => by kernel_rfl) (F_skip (by kernel_rfl) (F_skip (by kernel_rfl) (F_skip (by kernel_rfl) (F_val (.bool false) (fun _ => by kernel_rfl) (F_val (.bool false) (fun _ => by kernel_rfl) (F_skip (by kernel_rfl) (F_skip (by kernel_rfl) (F_skip (by kernel_rfl) (F_skip (by kernel_rfl) (F_skip (by kernel_rfl) (?_))))))))))))
            have HR := hr_neg HR c449
            refine F_val (.bool false) (fun _ => by kernel_rfl) (F_val (.bool false) (fun _ => by kernel_rfl) (F_skip (by kernel_rfl) (F_val (.bool false) (fun _ => by kernel_rfl) (F_val (.bool false) (fun _ => by kernel_rfl) (F_nil hM444 hL447 (fun w462 hM463 => S_nil (?_)))))))
            refine R_ret hM463 rfl (.cons (.tmp _ (.bool false) (by kernel_rfl)) .nil) rfl ?_
            exact ⟨congrArg Ending.returned HR, hM463.below⟩
        · refine F_val (.bool false) (fun _ => by kernel_rfl) (F_skip (by kernel_rfl) (F_skip (by kernel_rfl) (F_skip (by kernel_rfl) (F_val (.bool false) (fun _ => by kernel_rfl) (F_val (.bool false) (fun _ => by kernel_rfl) (F_skip (by kernel_rfl) (F_skip (by kernel_rfl) (F_skip (by kernel_rfl) (F_val (.bool false) (fun _ => by kernel_rfl) (F_val (.bool false) (fun _ => by kernel_rfl) (F_skip (by kernel_rfl) (?_))))))))))))
          have HR := hr_neg HR c448
          refine F_skip (by kernel_rfl) (F_skip (by kernel_rfl) (F_skip (by kernel_rfl) (F_skip (by kernel_rfl) (F_val (.bool false) (fun _ => by kernel_rfl) (F_val (.bool false) (fun _ => by kernel_rfl) (F_skip (by kernel_rfl) (F_val (.bool false) (fun _ => by kernel_rfl) (F_val (.bool false) (fun _ => by kernel_rfl) (F_nil hM444 hL447 (fun w464 hM465 => S_nil (?_)))))))))))
          refine R_ret hM465 rfl (.cons (.tmp _ (.bool false) (by kernel_rfl)) .nil) rfl ?_
          exact ⟨congrArg Ending.returned HR, hM465.below⟩

def e_wide_Add_0 (r : Int × Bool) : Value := .tuple #[.agg #[.int .i64 (wHi r.1), .int .u64 (wLo r.1)], .bool r.2]
def s_wide_Add_0  : Int × Bool :=
  (0, true)
set_option maxRecDepth 100000 in
set_option maxHeartbeats 4000000 in
theorem w_wide_Add_0  (A : Option Addr) (cap : Nat) (w : World) : Calls Try.prog 30 #[.slice A 0 cap] w (Ret (e_wide_Add_0 (s_wide_Add_0 )) w) := by
  obtain ⟨R, HR⟩ : ∃ R, e_wide_Add_0 (s_wide_Add_0 ) = R := ⟨_, rfl⟩
  rw [HR]
  unfold s_wide_Add_0 at HR
  have hM0 := St.start w
  refine calls_run Try.func30 rfl ?_
  refine R_seq (R_region (S_fresh none #[.int .i64 0, .int .u64 0] 24 hM0 (by kernel_rfl) (fun g1 w2 hM3 => S_val (.bool false) (by kernel_rfl) (S_nil (R_seq (R_seq (R_region (S_val (.slice A 0 cap) (by kernel_rfl) (S_val (.int .i64 0) (by kernel_rfl) (S_val (.int .i64 0) (by kernel_rfl) (S_nil (?_))))))))))))
  refine R_block (R_loop (R_seq (R_region (S_val (.bool false) (by kernel_rfl) (S_nil (R_seq (R_no (by kernel_rfl) (R_exit rfl (R_seq (R_region (S_load 0 0 (.agg #[.int .i64 0, .int .u64 0]) hM3 (by kernel_rfl) (?_))))))))))))
  refine S_store 0 0 #[.int .i64 0, .int .u64 0] hM3 (by kernel_rfl) (fun w4 hM5 => S_val (.bool true) (by kernel_rfl) (S_nil (?_)))
  refine R_ret hM5 rfl (.cons (.cell _ _ 0 0 (.agg #[.int .i64 0, .int .u64 0]) (by kernel_rfl)) (.cons (.tmp _ (.bool true) (by kernel_rfl)) .nil)) rfl ?_
  exact ⟨congrArg Ending.returned HR, hM5.below⟩

theorem c_wideAddX (l : List Int) (hI : ∀ x ∈ l, InW x) (hl : (List.length l : Int) ≤ 1000000) (A : Option Addr) (cap : Nat) (w : World) (hR : Rd wE 2 w A l) :
    Calls Try.prog 30 #[.slice A (List.length l) cap] w (Ret (e_addW (addW l)) w) := by
  rcases hR with h | ⟨b, off, c, T, fr, rfl, h2, h3⟩
  · subst h
    exact w_wide_Add_0 A cap w
  · refine wAdd_ne b off _ cap l rfl (by omega) hI w h2.lt (fun i hi => ?_)
    have k0 := h3 i hi 0 (by omega)
    have k1 := h3 i hi 1 (by omega)
    rw [h2.cell', h2.cell']
    rw [← Array.getElem?_toList, ← Array.getElem?_toList]
    exact ⟨k0, k1⟩

theorem takeI {l l' : List Int} {m : Nat} (hI : ∀ x ∈ l, InW x) (h : l.take m = l') : ∀ x ∈ l', InW x := fun x hx => by subst h; exact hI x (List.mem_of_mem_take hx)
theorem take8 {l l' : List Int} {x : Int} (hx : gmin (List.length l : Int) 8 = x) (h : l.take (Int.toNat x) = l') : (List.length l' : Int) ≤ 1000000 := by
  subst h
  rw [gmin_eq] at hx
  rw [List.length_take]; omega

def e_umbralaw01_WideSums (r : Bool) : Value := .bool r
def s_umbralaw01_WideSums (lL : List (Int)) (AL : Option Addr) (capL : Nat) (a : Int) : Bool :=
  lt (gmin (List.length lL : Int) 8) fun x4 =>
  lt (List.take (Int.toNat x4) lL) fun l6 =>
  lt (addW l6) fun r8 =>
  if r8.2 = true then
    lt (addW l6) fun r253 =>
    if r253.2 = true then
      lt (wneg2 a) fun r368 =>
      if r368.2 = true then
        lt (a) fun x432 =>
        lt (-x432) fun x442 =>
        lt (toW x442) fun r452 =>
        if r452.2 = true then
          if (r8.1 : Int) = r253.1 then
            if (r368.1 : Int) = r452.1 then
              lt (works01 ) fun r473 =>
              if r473 = true then
                true
              else
                false
            else
              false
          else
            false
        else
          if (r8.1 : Int) = r253.1 then
            if (r368.1 : Int) = r452.1 then
              false
            else
              false
          else
            false
      else
        lt (a) fun x380 =>
        lt (-x380) fun x390 =>
        lt (toW x390) fun r400 =>
        if r400.2 = true then
          if (r8.1 : Int) = r253.1 then
            if (r368.1 : Int) = r400.1 then
              false
            else
              false
          else
            false
        else
          if (r8.1 : Int) = r253.1 then
            if (r368.1 : Int) = r400.1 then
              lt (works01 ) fun r414 =>
              if r414 = true then
                true
              else
                false
            else
              false
          else
            false
    else
      lt (wneg2 a) fun r265 =>
      if r265.2 = true then
        lt (a) fun x322 =>
        lt (-x322) fun x332 =>
        lt (toW x332) fun r342 =>
        if r342.2 = true then
          if (r8.1 : Int) = r253.1 then
            false
          else
            false
        else
          if (r8.1 : Int) = r253.1 then
            false
          else
            false
      else
        lt (a) fun x277 =>
        lt (-x277) fun x287 =>
        lt (toW x287) fun r297 =>
        if r297.2 = true then
          if (r8.1 : Int) = r253.1 then
            false
          else
            false
        else
          if (r8.1 : Int) = r253.1 then
            false
          else
            false
  else
    lt (addW l6) fun r20 =>
    if r20.2 = true then
      lt (wneg2 a) fun r149 =>
      if r149.2 = true then
        lt (a) fun x206 =>
        lt (-x206) fun x216 =>
        lt (toW x216) fun r226 =>
        if r226.2 = true then
          if (r8.1 : Int) = r20.1 then
            false
          else
            false
        else
          if (r8.1 : Int) = r20.1 then
            false
          else
            false
      else
        lt (a) fun x161 =>
        lt (-x161) fun x171 =>
        lt (toW x171) fun r181 =>
        if r181.2 = true then
          if (r8.1 : Int) = r20.1 then
            false
          else
            false
        else
          if (r8.1 : Int) = r20.1 then
            false
          else
            false
    else
      lt (wneg2 a) fun r32 =>
      if r32.2 = true then
        lt (a) fun x96 =>
        lt (-x96) fun x106 =>
        lt (toW x106) fun r116 =>
        if r116.2 = true then
          if (r8.1 : Int) = r20.1 then
            if (r32.1 : Int) = r116.1 then
              lt (works01 ) fun r137 =>
              if r137 = true then
                true
              else
                false
            else
              false
          else
            false
        else
          if (r8.1 : Int) = r20.1 then
            if (r32.1 : Int) = r116.1 then
              false
            else
              false
          else
            false
      else
        lt (a) fun x44 =>
        lt (-x44) fun x54 =>
        lt (toW x54) fun r64 =>
        if r64.2 = true then
          if (r8.1 : Int) = r20.1 then
            if (r32.1 : Int) = r64.1 then
              false
            else
              false
          else
            false
        else
          if (r8.1 : Int) = r20.1 then
            if (r32.1 : Int) = r64.1 then
              lt (works01 ) fun r78 =>
              if r78 = true then
                true
              else
                false
            else
              false
          else
            false
set_option maxRecDepth 100000 in
set_option maxHeartbeats 4000000 in
theorem w_umbralaw01_WideSums (lL : List (Int)) (AL : Option Addr) (capL : Nat) (a : Int) (h_a : InW a) (w : World) (hRL : Rd wE 2 w AL lL) (hcL : List.length lL ≤ capL) (hIL : ∀ x ∈ lL, InW x) : Calls Try.prog 9 #[.slice AL (List.length lL) capL, .agg #[.int .i64 (wHi a), .int .u64 (wLo a)]] w (Ret (e_umbralaw01_WideSums (s_umbralaw01_WideSums lL AL capL a)) w) := by
  obtain ⟨R, HR⟩ : ∃ R, e_umbralaw01_WideSums (s_umbralaw01_WideSums lL AL capL a) = R := ⟨_, rfl⟩
  rw [HR]
  unfold s_umbralaw01_WideSums at HR
  have hM0 := St.startN (w := w) [] ents0
  refine calls_run Try.func9 rfl ?_
  have i_a := h_a; unfold InW at i_a
  refine R_seq (R_region (S_fresh none #[.int .i64 (wHi a), .int .u64 (wLo a)] 24 hM0 (by kernel_rfl) (fun g1 w2 hM3 => S_val (.bool false) (by kernel_rfl) (S_nil (R_seq (R_region (S_val (.slice AL (List.length lL) capL) (by kernel_rfl) (S_val (.slice AL (List.length lL) capL) (by kernel_rfl) (S_val (.int .i64 (List.length lL : Int)) (by kernel_rfl) (S_int (gmin (List.length lL : Int) 8) .i64 (by kernel_rfl) (fun x4 h5 => ?_)))))))))))
  have HR := hr_lt HR h5
  have hw_x4 := h5; rw [gmin_eq] at hw_x4
  refine S_cutX 24 AL capL lL x4 (by have := hcL; omega) (by kernel_rfl) (fun l6 h7 => S_val (.slice AL (List.length l6) capL) (by kernel_rfl) (S_nil (R_seq (R_region (S_val (.slice AL (List.length l6) capL) (by kernel_rfl) (S_call (addW l6) (fun r : Int × Bool => .tuple #[.agg #[.int .i64 (wHi r.1), .int .u64 (wLo r.1)], .bool r.2]) hM3 (c_wideAddX l6 (takeI hIL h7) (take8 (by assumption) h7) AL capL w2 (Rd.stay (Rd.cutE hRL h7) (St.below hM3))) (by kernel_rfl) (fun r8 h9 w10 hM11 => ?_)))))))
  have HR := hr_lt HR h7
  have HR := hr_lt HR h9
  obtain ⟨r12, b14⟩ := r8
  cases b14
  · refine S_val (.tuple #[.agg #[.int .i64 (wHi r12), .int .u64 (wLo r12)], .bool false]) (by kernel_rfl) (S_val (.agg #[.int .i64 (wHi r12), .int .u64 (wLo r12)]) (by kernel_rfl) (S_val (.bool false) (by kernel_rfl) (S_fresh none #[.int .i64 0, .int .u64 0] 24 hM11 (by kernel_rfl) (fun g15 w16 hM17 => S_store 0 0 #[.int .i64 (wHi r12), .int .u64 (wLo r12)] hM17 (by kernel_rfl) (fun w18 hM19 => S_val (.bool false) (by kernel_rfl) (S_nil (R_seq (R_region (S_val (.slice AL (List.length l6) capL) (by kernel_rfl) (S_call (addW l6) (fun r : Int × Bool => .tuple #[.agg #[.int .i64 (wHi r.1), .int .u64 (wLo r.1)], .bool r.2]) hM19 (k_Add l6 AL capL (takeI hIL h7) (take8 (by assumption) h7) w18 (Rd.stay (Rd.cutE hRL h7) (St.below hM19))) (by kernel_rfl) (fun r20 h21 w22 hM23 => ?_)))))))))))
    have HR := hr_neg HR Bool.false_ne_true
    have HR := hr_lt HR h21
    obtain ⟨r24, b26⟩ := r20
    cases b26
    · refine S_val (.tuple #[.agg #[.int .i64 (wHi r24), .int .u64 (wLo r24)], .bool false]) (by kernel_rfl) (S_val (.agg #[.int .i64 (wHi r24), .int .u64 (wLo r24)]) (by kernel_rfl) (S_val (.bool false) (by kernel_rfl) (S_fresh none #[.int .i64 0, .int .u64 0] 24 hM23 (by kernel_rfl) (fun g27 w28 hM29 => S_store 0 0 #[.int .i64 (wHi r24), .int .u64 (wLo r24)] hM29 (by kernel_rfl) (fun w30 hM31 => S_val (.bool false) (by kernel_rfl) (S_nil (R_seq (R_region (S_load 2 0 (.agg #[.int .i64 (wHi a), .int .u64 (wLo a)]) hM31 (by kernel_rfl) (S_call (wneg2 a) (fun r : Int × Bool => .tuple #[.agg #[.int .i64 (wHi r.1), .int .u64 (wLo r.1)], .bool r.2]) hM31 (c_wide_Neg a h_a w30) (by kernel_rfl) (fun r32 h33 w34 hM35 => ?_)))))))))))
      have HR := hr_neg HR Bool.false_ne_true
      have HR := hr_lt HR h33
      obtain ⟨r36, b38⟩ := r32
      cases b38
      · refine S_val (.tuple #[.agg #[.int .i64 (wHi r36), .int .u64 (wLo r36)], .bool false]) (by kernel_rfl) (S_val (.agg #[.int .i64 (wHi r36), .int .u64 (wLo r36)]) (by kernel_rfl) (S_val (.bool false) (by kernel_rfl) (S_fresh none #[.int .i64 0, .int .u64 0] 24 hM35 (by kernel_rfl) (fun g39 w40 hM41 => S_store 0 0 #[.int .i64 (wHi r36), .int .u64 (wLo r36)] hM41 (by kernel_rfl) (fun w42 hM43 => S_val (.bool false) (by kernel_rfl) (S_nil (R_seq (R_region (S_load 3 0 (.agg #[.int .i64 (wHi a), .int .u64 (wLo a)]) hM43 (by kernel_rfl) (S_callB (a) [] hM43 (k_Wide a h_a w42) sub0 (by kernel_rfl) (fun x44 h45 b46 l47 hn48 A49 cap50 hc51 w52 hM53 => S_callB (-x44) [(A49, nv l47)] hM53 (k_Minus b46 l47 x44 hn48 A49 (List.length l47) cap50 rfl hc51 (by omega) w52 (hM53.ent 0 rfl)) (subc 0 rfl sub0) (by kernel_rfl) (fun x54 h55 b56 l57 hn58 A59 cap60 hc61 w62 hM63 => ?_))))))))))))
        have HR := hr_neg HR Bool.false_ne_true
        have HR := hr_lt HR h45
        have HR := hr_lt HR h55
        refine S_call (toW x54) (fun r : Int × Bool => .tuple #[.agg #[.int .i64 (wHi r.1), .int .u64 (wLo r.1)], .bool r.2]) hM63 (k_ToWide b56 l57 x54 hn58 A59 (List.length l57) cap60 rfl hc61 (by omega) w62 (hM63.ent 0 rfl)) (by kernel_rfl) (fun r64 h65 w66 hM67 => ?_)
        have HR := hr_lt HR h65
        obtain ⟨r68, b70⟩ := r64
        cases b70
        · refine S_val (.tuple #[.agg #[.int .i64 (wHi r68), .int .u64 (wLo r68)], .bool false]) (by kernel_rfl) (S_val (.agg #[.int .i64 (wHi r68), .int .u64 (wLo r68)]) (by kernel_rfl) (S_val (.bool false) (by kernel_rfl) (S_fresh none #[.int .i64 0, .int .u64 0] 24 hM67 (by kernel_rfl) (fun g71 w72 hM73 => S_store 0 0 #[.int .i64 (wHi r68), .int .u64 (wLo r68)] hM73 (by kernel_rfl) (fun w74 hM75 => S_val (.bool false) (by kernel_rfl) (S_nil (R_seq (R_region (S_load 3 0 (.agg #[.int .i64 (wHi r12), .int .u64 (wLo r12)]) hM75 (by kernel_rfl) (S_load 2 0 (.agg #[.int .i64 (wHi r24), .int .u64 (wLo r24)]) hM75 (by kernel_rfl) (?_)))))))))))
          have HR := hr_neg HR Bool.false_ne_true
          refine S_dec ((r12 : Int) = r24) (eqv_W (x := r12) (y := r24) (by kernel_rfl) (by kernel_rfl) (by kernel_rfl)) (fun c76 => ?_) (fun c76 => ?_)
          · refine S_val (.bool true) (by kernel_rfl) (S_val (.bool false) (by kernel_rfl) (S_val (.bool false) (by kernel_rfl) (S_val (.bool true) (by kernel_rfl) (S_val (.bool true) (by kernel_rfl) (S_val (.bool true) (by kernel_rfl) (S_load 1 0 (.agg #[.int .i64 (wHi r36), .int .u64 (wLo r36)]) hM75 (by kernel_rfl) (S_load 0 0 (.agg #[.int .i64 (wHi r68), .int .u64 (wLo r68)]) hM75 (by kernel_rfl) (?_))))))))
            have HR := hr_pos HR c76
            refine S_dec ((r36 : Int) = r68) (eqv_W (x := r36) (y := r68) (by kernel_rfl) (by kernel_rfl) (by kernel_rfl)) (fun c77 => ?_) (fun c77 => ?_)
            · refine S_val (.bool true) (by kernel_rfl) (S_val (.bool true) (by kernel_rfl) (S_val (.bool false) (by kernel_rfl) (S_val (.bool false) (by kernel_rfl) (S_val (.bool true) (by kernel_rfl) (S_val (.bool true) (by kernel_rfl) (S_val (.bool true) (by kernel_rfl) (S_call (works01 ) (fun r : Bool => .bool r) hM75 (c_works01  w74) (by kernel_rfl) (fun r78 h79 w80 hM81 => ?_))))))))
              have HR := hr_pos HR c77
              have HR := hr_lt HR h79
              cases r78
              · refine S_val (.bool false) (by kernel_rfl) (S_val (.bool false) (by kernel_rfl) (S_nil (?_)))
                have HR := hr_neg HR Bool.false_ne_true
                refine R_ret hM81 rfl (.cons (.tmp _ (.bool false) (by kernel_rfl)) .nil) rfl ?_
                exact ⟨congrArg Ending.returned HR, hM81.below⟩
              · refine S_val (.bool true) (by kernel_rfl) (S_val (.bool true) (by kernel_rfl) (S_nil (?_)))
                have HR := hr_pos HR rfl
                refine R_ret hM81 rfl (.cons (.tmp _ (.bool true) (by kernel_rfl)) .nil) rfl ?_
                exact ⟨congrArg Ending.returned HR, hM81.below⟩
            · refine S_val (.bool false) (by kernel_rfl) (S_val (.bool false) (by kernel_rfl) (S_skip (by kernel_rfl) (S_skip (by kernel_rfl) (S_skip (by kernel_rfl) (S_val (.bool false) (by kernel_rfl) (S_val (.bool false) (by kernel_rfl) (S_skip (by kernel_rfl) (S_val (.bool false) (by kernel_rfl) (S_val (.bool false) (by kernel_rfl) (S_nil (?_)))))))))))
              have HR := hr_neg HR c77
              refine R_ret hM75 rfl (.cons (.tmp _ (.bool false) (by kernel_rfl)) .nil) rfl ?_
              exact ⟨congrArg Ending.returned HR, hM75.below⟩
          · refine S_val (.bool false) (by kernel_rfl) (S_skip (by kernel_rfl) (S_skip (by kernel_rfl) (S_skip (by kernel_rfl) (S_val (.bool false) (by kernel_rfl) (S_val (.bool false) (by kernel_rfl) (S_skip (by kernel_rfl) (S_skip (by kernel_rfl) (S_skip (by kernel_rfl) (S_val (.bool false) (by kernel_rfl) (S_val (.bool false) (by kernel_rfl) (S_skip (by kernel_rfl) (?_))))))))))))
            have HR := hr_neg HR c76
            refine S_skip (by kernel_rfl) (S_skip (by kernel_rfl) (S_val (.bool false) (by kernel_rfl) (S_val (.bool false) (by kernel_rfl) (S_skip (by kernel_rfl) (S_val (.bool false) (by kernel_rfl) (S_val (.bool false) (by kernel_rfl) (S_nil (?_))))))))
            refine R_ret hM75 rfl (.cons (.tmp _ (.bool false) (by kernel_rfl)) .nil) rfl ?_
            exact ⟨congrArg Ending.returned HR, hM75.below⟩
        · refine S_val (.tuple #[.agg #[.int .i64 (wHi r68), .int .u64 (wLo r68)], .bool true]) (by kernel_rfl) (S_val (.agg #[.int .i64 (wHi r68), .int .u64 (wLo r68)]) (by kernel_rfl) (S_val (.bool true) (by kernel_rfl) (S_fresh none #[.int .i64 0, .int .u64 0] 24 hM67 (by kernel_rfl) (fun g83 w84 hM85 => S_store 0 0 #[.int .i64 (wHi r68), .int .u64 (wLo r68)] hM85 (by kernel_rfl) (fun w86 hM87 => S_val (.bool true) (by kernel_rfl) (S_nil (R_seq (R_region (S_load 3 0 (.agg #[.int .i64 (wHi r12), .int .u64 (wLo r12)]) hM87 (by kernel_rfl) (S_load 2 0 (.agg #[.int .i64 (wHi r24), .int .u64 (wLo r24)]) hM87 (by kernel_rfl) (?_)))))))))))
          have HR := hr_pos HR rfl
          refine S_dec ((r12 : Int) = r24) (eqv_W (x := r12) (y := r24) (by kernel_rfl) (by kernel_rfl) (by kernel_rfl)) (fun c88 => ?_) (fun c88 => ?_)
          · refine S_val (.bool true) (by kernel_rfl) (S_val (.bool false) (by kernel_rfl) (S_val (.bool false) (by kernel_rfl) (S_val (.bool true) (by kernel_rfl) (S_val (.bool true) (by kernel_rfl) (S_val (.bool true) (by kernel_rfl) (S_load 1 0 (.agg #[.int .i64 (wHi r36), .int .u64 (wLo r36)]) hM87 (by kernel_rfl) (S_load 0 0 (.agg #[.int .i64 (wHi r68), .int .u64 (wLo r68)]) hM87 (by kernel_rfl) (?_))))))))
            have HR := hr_pos HR c88
            refine S_dec ((r36 : Int) = r68) (eqv_W (x := r36) (y := r68) (by kernel_rfl) (by kernel_rfl) (by kernel_rfl)) (fun c89 => ?_) (fun c89 => ?_)
            · refine S_val (.bool true) (by kernel_rfl) (S_val (.bool true) (by kernel_rfl) (S_val (.bool false) (by kernel_rfl) (S_val (.bool true) (by kernel_rfl) (S_val (.bool false) (by kernel_rfl) (S_val (.bool false) (by kernel_rfl) (S_val (.bool false) (by kernel_rfl) (S_skip (by kernel_rfl) (S_val (.bool false) (by kernel_rfl) (S_val (.bool false) (by kernel_rfl) (S_nil (?_)))))))))))
              have HR := hr_pos HR c89
              refine R_ret hM87 rfl (.cons (.tmp _ (.bool false) (by kernel_rfl)) .nil) rfl ?_
              exact ⟨congrArg Ending.returned HR, hM87.below⟩
            · refine S_val (.bool false) (by kernel_rfl) (S_val (.bool false) (by kernel_rfl) (S_skip (by kernel_rfl) (S_skip (by kernel_rfl) (S_skip (by kernel_rfl) (S_val (.bool false) (by kernel_rfl) (S_val (.bool false) (by kernel_rfl) (S_skip (by kernel_rfl) (S_val (.bool false) (by kernel_rfl) (S_val (.bool false) (by kernel_rfl) (S_nil (?_)))))))))))
              have HR := hr_neg HR c89
              refine R_ret hM87 rfl (.cons (.tmp _ (.bool false) (by kernel_rfl)) .nil) rfl ?_
              exact ⟨congrArg Ending.returned HR, hM87.below⟩
          · refine S_val (.bool false) (by kernel_rfl) (S_skip (by kernel_rfl) (S_skip (by kernel_rfl) (S_skip (by kernel_rfl) (S_val (.bool false) (by kernel_rfl) (S_val (.bool false) (by kernel_rfl) (S_skip (by kernel_rfl) (S_skip (by kernel_rfl) (S_skip (by kernel_rfl) (S_val (.bool false) (by kernel_rfl) (S_val (.bool false) (by kernel_rfl) (S_skip (by kernel_rfl) (?_))))))))))))
            have HR := hr_neg HR c88
            refine S_skip (by kernel_rfl) (S_skip (by kernel_rfl) (S_val (.bool false) (by kernel_rfl) (S_val (.bool false) (by kernel_rfl) (S_skip (by kernel_rfl) (S_val (.bool false) (by kernel_rfl) (S_val (.bool false) (by kernel_rfl) (S_nil (?_))))))))
            refine R_ret hM87 rfl (.cons (.tmp _ (.bool false) (by kernel_rfl)) .nil) rfl ?_
            exact ⟨congrArg Ending.returned HR, hM87.below⟩
      · refine S_val (.tuple #[.agg #[.int .i64 (wHi r36), .int .u64 (wLo r36)], .bool true]) (by kernel_rfl) (S_val (.agg #[.int .i64 (wHi r36), .int .u64 (wLo r36)]) (by kernel_rfl) (S_val (.bool true) (by kernel_rfl) (S_fresh none #[.int .i64 0, .int .u64 0] 24 hM35 (by kernel_rfl) (fun g91 w92 hM93 => S_store 0 0 #[.int .i64 (wHi r36), .int .u64 (wLo r36)] hM93 (by kernel_rfl) (fun w94 hM95 => S_val (.bool true) (by kernel_rfl) (S_nil (R_seq (R_region (S_load 3 0 (.agg #[.int .i64 (wHi a), .int .u64 (wLo a)]) hM95 (by kernel_rfl) (S_callB (a) [] hM95 (k_Wide a h_a w94) sub0 (by kernel_rfl) (fun x96 h97 b98 l99 hn100 A101 cap102 hc103 w104 hM105 => S_callB (-x96) [(A101, nv l99)] hM105 (k_Minus b98 l99 x96 hn100 A101 (List.length l99) cap102 rfl hc103 (by omega) w104 (hM105.ent 0 rfl)) (subc 0 rfl sub0) (by kernel_rfl) (fun x106 h107 b108 l109 hn110 A111 cap112 hc113 w114 hM115 => ?_))))))))))))
        have HR := hr_pos HR rfl
        have HR := hr_lt HR h97
        have HR := hr_lt HR h107
        refine S_call (toW x106) (fun r : Int × Bool => .tuple #[.agg #[.int .i64 (wHi r.1), .int .u64 (wLo r.1)], .bool r.2]) hM115 (k_ToWide b108 l109 x106 hn110 A111 (List.length l109) cap112 rfl hc113 (by omega) w114 (hM115.ent 0 rfl)) (by kernel_rfl) (fun r116 h117 w118 hM119 => ?_)
        have HR := hr_lt HR h117
        obtain ⟨r120, b122⟩ := r116
        cases b122
        · refine S_val (.tuple #[.agg #[.int .i64 (wHi r120), .int .u64 (wLo r120)], .bool false]) (by kernel_rfl) (S_val (.agg #[.int .i64 (wHi r120), .int .u64 (wLo r120)]) (by kernel_rfl) (S_val (.bool false) (by kernel_rfl) (S_fresh none #[.int .i64 0, .int .u64 0] 24 hM119 (by kernel_rfl) (fun g123 w124 hM125 => S_store 0 0 #[.int .i64 (wHi r120), .int .u64 (wLo r120)] hM125 (by kernel_rfl) (fun w126 hM127 => S_val (.bool false) (by kernel_rfl) (S_nil (R_seq (R_region (S_load 3 0 (.agg #[.int .i64 (wHi r12), .int .u64 (wLo r12)]) hM127 (by kernel_rfl) (S_load 2 0 (.agg #[.int .i64 (wHi r24), .int .u64 (wLo r24)]) hM127 (by kernel_rfl) (?_)))))))))))
          have HR := hr_neg HR Bool.false_ne_true
          refine S_dec ((r12 : Int) = r24) (eqv_W (x := r12) (y := r24) (by kernel_rfl) (by kernel_rfl) (by kernel_rfl)) (fun c128 => ?_) (fun c128 => ?_)
          · refine S_val (.bool true) (by kernel_rfl) (S_val (.bool false) (by kernel_rfl) (S_val (.bool false) (by kernel_rfl) (S_val (.bool true) (by kernel_rfl) (S_val (.bool true) (by kernel_rfl) (S_val (.bool true) (by kernel_rfl) (S_load 1 0 (.agg #[.int .i64 (wHi r36), .int .u64 (wLo r36)]) hM127 (by kernel_rfl) (S_load 0 0 (.agg #[.int .i64 (wHi r120), .int .u64 (wLo r120)]) hM127 (by kernel_rfl) (?_))))))))
            have HR := hr_pos HR c128
            refine S_dec ((r36 : Int) = r120) (eqv_W (x := r36) (y := r120) (by kernel_rfl) (by kernel_rfl) (by kernel_rfl)) (fun c129 => ?_) (fun c129 => ?_)
            · refine S_val (.bool true) (by kernel_rfl) (S_val (.bool true) (by kernel_rfl) (S_val (.bool true) (by kernel_rfl) (S_val (.bool false) (by kernel_rfl) (S_val (.bool false) (by kernel_rfl) (S_val (.bool false) (by kernel_rfl) (S_val (.bool false) (by kernel_rfl) (S_skip (by kernel_rfl) (S_val (.bool false) (by kernel_rfl) (S_val (.bool false) (by kernel_rfl) (S_nil (?_)))))))))))
              have HR := hr_pos HR c129
              refine R_ret hM127 rfl (.cons (.tmp _ (.bool false) (by kernel_rfl)) .nil) rfl ?_
              exact ⟨congrArg Ending.returned HR, hM127.below⟩
            · refine S_val (.bool false) (by kernel_rfl) (S_val (.bool false) (by kernel_rfl) (S_skip (by kernel_rfl) (S_skip (by kernel_rfl) (S_skip (by kernel_rfl) (S_val (.bool false) (by kernel_rfl) (S_val (.bool false) (by kernel_rfl) (S_skip (by kernel_rfl) (S_val (.bool false) (by kernel_rfl) (S_val (.bool false) (by kernel_rfl) (S_nil (?_)))))))))))
              have HR := hr_neg HR c129
              refine R_ret hM127 rfl (.cons (.tmp _ (.bool false) (by kernel_rfl)) .nil) rfl ?_
              exact ⟨congrArg Ending.returned HR, hM127.below⟩
          · refine S_val (.bool false) (by kernel_rfl) (S_skip (by kernel_rfl) (S_skip (by kernel_rfl) (S_skip (by kernel_rfl) (S_val (.bool false) (by kernel_rfl) (S_val (.bool false) (by kernel_rfl) (S_skip (by kernel_rfl) (S_skip (by kernel_rfl) (S_skip (by kernel_rfl) (S_val (.bool false) (by kernel_rfl) (S_val (.bool false) (by kernel_rfl) (S_skip (by kernel_rfl) (?_))))))))))))
            have HR := hr_neg HR c128
            refine S_skip (by kernel_rfl) (S_skip (by kernel_rfl) (S_val (.bool false) (by kernel_rfl) (S_val (.bool false) (by kernel_rfl) (S_skip (by kernel_rfl) (S_val (.bool false) (by kernel_rfl) (S_val (.bool false) (by kernel_rfl) (S_nil (?_))))))))
            refine R_ret hM127 rfl (.cons (.tmp _ (.bool false) (by kernel_rfl)) .nil) rfl ?_
            exact ⟨congrArg Ending.returned HR, hM127.below⟩
        · refine S_val (.tuple #[.agg #[.int .i64 (wHi r120), .int .u64 (wLo r120)], .bool true]) (by kernel_rfl) (S_val (.agg #[.int .i64 (wHi r120), .int .u64 (wLo r120)]) (by kernel_rfl) (S_val (.bool true) (by kernel_rfl) (S_fresh none #[.int .i64 0, .int .u64 0] 24 hM119 (by kernel_rfl) (fun g130 w131 hM132 => S_store 0 0 #[.int .i64 (wHi r120), .int .u64 (wLo r120)] hM132 (by kernel_rfl) (fun w133 hM134 => S_val (.bool true) (by kernel_rfl) (S_nil (R_seq (R_region (S_load 3 0 (.agg #[.int .i64 (wHi r12), .int .u64 (wLo r12)]) hM134 (by kernel_rfl) (S_load 2 0 (.agg #[.int .i64 (wHi r24), .int .u64 (wLo r24)]) hM134 (by kernel_rfl) (?_)))))))))))
          have HR := hr_pos HR rfl
          refine S_dec ((r12 : Int) = r24) (eqv_W (x := r12) (y := r24) (by kernel_rfl) (by kernel_rfl) (by kernel_rfl)) (fun c135 => ?_) (fun c135 => ?_)
          · refine S_val (.bool true) (by kernel_rfl) (S_val (.bool false) (by kernel_rfl) (S_val (.bool false) (by kernel_rfl) (S_val (.bool true) (by kernel_rfl) (S_val (.bool true) (by kernel_rfl) (S_val (.bool true) (by kernel_rfl) (S_load 1 0 (.agg #[.int .i64 (wHi r36), .int .u64 (wLo r36)]) hM134 (by kernel_rfl) (S_load 0 0 (.agg #[.int .i64 (wHi r120), .int .u64 (wLo r120)]) hM134 (by kernel_rfl) (?_))))))))
            have HR := hr_pos HR c135
            refine S_dec ((r36 : Int) = r120) (eqv_W (x := r36) (y := r120) (by kernel_rfl) (by kernel_rfl) (by kernel_rfl)) (fun c136 => ?_) (fun c136 => ?_)
            · refine S_val (.bool true) (by kernel_rfl) (S_val (.bool true) (by kernel_rfl) (S_val (.bool true) (by kernel_rfl) (S_val (.bool true) (by kernel_rfl) (S_val (.bool true) (by kernel_rfl) (S_val (.bool true) (by kernel_rfl) (S_val (.bool true) (by kernel_rfl) (S_call (works01 ) (fun r : Bool => .bool r) hM134 (c_works01  w133) (by kernel_rfl) (fun r137 h138 w139 hM140 => ?_))))))))
              have HR := hr_pos HR c136
              have HR := hr_lt HR h138
              cases r137
              · refine S_val (.bool false) (by kernel_rfl) (S_val (.bool false) (by kernel_rfl) (S_nil (?_)))
                have HR := hr_neg HR Bool.false_ne_true
                refine R_ret hM140 rfl (.cons (.tmp _ (.bool false) (by kernel_rfl)) .nil) rfl ?_
                exact ⟨congrArg Ending.returned HR, hM140.below⟩
              · refine S_val (.bool true) (by kernel_rfl) (S_val (.bool true) (by kernel_rfl) (S_nil (?_)))
                have HR := hr_pos HR rfl
                refine R_ret hM140 rfl (.cons (.tmp _ (.bool true) (by kernel_rfl)) .nil) rfl ?_
                exact ⟨congrArg Ending.returned HR, hM140.below⟩
            · refine S_val (.bool false) (by kernel_rfl) (S_val (.bool false) (by kernel_rfl) (S_skip (by kernel_rfl) (S_skip (by kernel_rfl) (S_skip (by kernel_rfl) (S_val (.bool false) (by kernel_rfl) (S_val (.bool false) (by kernel_rfl) (S_skip (by kernel_rfl) (S_val (.bool false) (by kernel_rfl) (S_val (.bool false) (by kernel_rfl) (S_nil (?_)))))))))))
              have HR := hr_neg HR c136
              refine R_ret hM134 rfl (.cons (.tmp _ (.bool false) (by kernel_rfl)) .nil) rfl ?_
              exact ⟨congrArg Ending.returned HR, hM134.below⟩
          · refine S_val (.bool false) (by kernel_rfl) (S_skip (by kernel_rfl) (S_skip (by kernel_rfl) (S_skip (by kernel_rfl) (S_val (.bool false) (by kernel_rfl) (S_val (.bool false) (by kernel_rfl) (S_skip (by kernel_rfl) (S_skip (by kernel_rfl) (S_skip (by kernel_rfl) (S_val (.bool false) (by kernel_rfl) (S_val (.bool false) (by kernel_rfl) (S_skip (by kernel_rfl) (?_))))))))))))
            have HR := hr_neg HR c135
            refine S_skip (by kernel_rfl) (S_skip (by kernel_rfl) (S_val (.bool false) (by kernel_rfl) (S_val (.bool false) (by kernel_rfl) (S_skip (by kernel_rfl) (S_val (.bool false) (by kernel_rfl) (S_val (.bool false) (by kernel_rfl) (S_nil (?_))))))))
            refine R_ret hM134 rfl (.cons (.tmp _ (.bool false) (by kernel_rfl)) .nil) rfl ?_
            exact ⟨congrArg Ending.returned HR, hM134.below⟩
    · refine S_val (.tuple #[.agg #[.int .i64 (wHi r24), .int .u64 (wLo r24)], .bool true]) (by kernel_rfl) (S_val (.agg #[.int .i64 (wHi r24), .int .u64 (wLo r24)]) (by kernel_rfl) (S_val (.bool true) (by kernel_rfl) (S_fresh none #[.int .i64 0, .int .u64 0] 24 hM23 (by kernel_rfl) (fun g144 w145 hM146 => S_store 0 0 #[.int .i64 (wHi r24), .int .u64 (wLo r24)] hM146 (by kernel_rfl) (fun w147 hM148 => S_val (.bool true) (by kernel_rfl) (S_nil (R_seq (R_region (S_load 2 0 (.agg #[.int .i64 (wHi a), .int .u64 (wLo a)]) hM148 (by kernel_rfl) (S_call (wneg2 a) (fun r : Int × Bool => .tuple #[.agg #[.int .i64 (wHi r.1), .int .u64 (wLo r.1)], .bool r.2]) hM148 (c_wide_Neg a h_a w147) (by kernel_rfl) (fun r149 h150 w151 hM152 => ?_)))))))))))
      have HR := hr_pos HR rfl
      have HR := hr_lt HR h150
      obtain ⟨r153, b155⟩ := r149
      cases b155
      · refine S_val (.tuple #[.agg #[.int .i64 (wHi r153), .int .u64 (wLo r153)], .bool false]) (by kernel_rfl) (S_val (.agg #[.int .i64 (wHi r153), .int .u64 (wLo r153)]) (by kernel_rfl) (S_val (.bool false) (by kernel_rfl) (S_fresh none #[.int .i64 0, .int .u64 0] 24 hM152 (by kernel_rfl) (fun g156 w157 hM158 => S_store 0 0 #[.int .i64 (wHi r153), .int .u64 (wLo r153)] hM158 (by kernel_rfl) (fun w159 hM160 => S_val (.bool false) (by kernel_rfl) (S_nil (R_seq (R_region (S_load 3 0 (.agg #[.int .i64 (wHi a), .int .u64 (wLo a)]) hM160 (by kernel_rfl) (S_callB (a) [] hM160 (k_Wide a h_a w159) sub0 (by kernel_rfl) (fun x161 h162 b163 l164 hn165 A166 cap167 hc168 w169 hM170 => S_callB (-x161) [(A166, nv l164)] hM170 (k_Minus b163 l164 x161 hn165 A166 (List.length l164) cap167 rfl hc168 (by omega) w169 (hM170.ent 0 rfl)) (subc 0 rfl sub0) (by kernel_rfl) (fun x171 h172 b173 l174 hn175 A176 cap177 hc178 w179 hM180 => ?_))))))))))))
        have HR := hr_neg HR Bool.false_ne_true
        have HR := hr_lt HR h162
        have HR := hr_lt HR h172
        refine S_call (toW x171) (fun r : Int × Bool => .tuple #[.agg #[.int .i64 (wHi r.1), .int .u64 (wLo r.1)], .bool r.2]) hM180 (k_ToWide b173 l174 x171 hn175 A176 (List.length l174) cap177 rfl hc178 (by omega) w179 (hM180.ent 0 rfl)) (by kernel_rfl) (fun r181 h182 w183 hM184 => ?_)
        have HR := hr_lt HR h182
        obtain ⟨r185, b187⟩ := r181
        cases b187
        · refine S_val (.tuple #[.agg #[.int .i64 (wHi r185), .int .u64 (wLo r185)], .bool false]) (by kernel_rfl) (S_val (.agg #[.int .i64 (wHi r185), .int .u64 (wLo r185)]) (by kernel_rfl) (S_val (.bool false) (by kernel_rfl) (S_fresh none #[.int .i64 0, .int .u64 0] 24 hM184 (by kernel_rfl) (fun g188 w189 hM190 => S_store 0 0 #[.int .i64 (wHi r185), .int .u64 (wLo r185)] hM190 (by kernel_rfl) (fun w191 hM192 => S_val (.bool false) (by kernel_rfl) (S_nil (R_seq (R_region (S_load 3 0 (.agg #[.int .i64 (wHi r12), .int .u64 (wLo r12)]) hM192 (by kernel_rfl) (S_load 2 0 (.agg #[.int .i64 (wHi r24), .int .u64 (wLo r24)]) hM192 (by kernel_rfl) (?_)))))))))))
          have HR := hr_neg HR Bool.false_ne_true
          refine S_dec ((r12 : Int) = r24) (eqv_W (x := r12) (y := r24) (by kernel_rfl) (by kernel_rfl) (by kernel_rfl)) (fun c193 => ?_) (fun c193 => ?_)
          · refine S_val (.bool true) (by kernel_rfl) (S_val (.bool false) (by kernel_rfl) (S_val (.bool true) (by kernel_rfl) (S_val (.bool false) (by kernel_rfl) (S_val (.bool false) (by kernel_rfl) (S_val (.bool false) (by kernel_rfl) (S_skip (by kernel_rfl) (S_skip (by kernel_rfl) (S_skip (by kernel_rfl) (S_val (.bool false) (by kernel_rfl) (S_val (.bool false) (by kernel_rfl) (S_skip (by kernel_rfl) (?_))))))))))))
            have HR := hr_pos HR c193
            refine S_skip (by kernel_rfl) (S_skip (by kernel_rfl) (S_val (.bool false) (by kernel_rfl) (S_val (.bool false) (by kernel_rfl) (S_skip (by kernel_rfl) (S_val (.bool false) (by kernel_rfl) (S_val (.bool false) (by kernel_rfl) (S_nil (?_))))))))
            refine R_ret hM192 rfl (.cons (.tmp _ (.bool false) (by kernel_rfl)) .nil) rfl ?_
            exact ⟨congrArg Ending.returned HR, hM192.below⟩
          · refine S_val (.bool false) (by kernel_rfl) (S_skip (by kernel_rfl) (S_skip (by kernel_rfl) (S_skip (by kernel_rfl) (S_val (.bool false) (by kernel_rfl) (S_val (.bool false) (by kernel_rfl) (S_skip (by kernel_rfl) (S_skip (by kernel_rfl) (S_skip (by kernel_rfl) (S_val (.bool false) (by kernel_rfl) (S_val (.bool false) (by kernel_rfl) (S_skip (by kernel_rfl) (?_))))))))))))
            have HR := hr_neg HR c193
            refine S_skip (by kernel_rfl) (S_skip (by kernel_rfl) (S_val (.bool false) (by kernel_rfl) (S_val (.bool false) (by kernel_rfl) (S_skip (by kernel_rfl) (S_val (.bool false) (by kernel_rfl) (S_val (.bool false) (by kernel_rfl) (S_nil (?_))))))))
            refine R_ret hM192 rfl (.cons (.tmp _ (.bool false) (by kernel_rfl)) .nil) rfl ?_
            exact ⟨congrArg Ending.returned HR, hM192.below⟩
        · refine S_val (.tuple #[.agg #[.int .i64 (wHi r185), .int .u64 (wLo r185)], .bool true]) (by kernel_rfl) (S_val (.agg #[.int .i64 (wHi r185), .int .u64 (wLo r185)]) (by kernel_rfl) (S_val (.bool true) (by kernel_rfl) (S_fresh none #[.int .i64 0, .int .u64 0] 24 hM184 (by kernel_rfl) (fun g194 w195 hM196 => S_store 0 0 #[.int .i64 (wHi r185), .int .u64 (wLo r185)] hM196 (by kernel_rfl) (fun w197 hM198 => S_val (.bool true) (by kernel_rfl) (S_nil (R_seq (R_region (S_load 3 0 (.agg #[.int .i64 (wHi r12), .int .u64 (wLo r12)]) hM198 (by kernel_rfl) (S_load 2 0 (.agg #[.int .i64 (wHi r24), .int .u64 (wLo r24)]) hM198 (by kernel_rfl) (?_)))))))))))
          have HR := hr_pos HR rfl
          refine S_dec ((r12 : Int) = r24) (eqv_W (x := r12) (y := r24) (by kernel_rfl) (by kernel_rfl) (by kernel_rfl)) (fun c199 => ?_) (fun c199 => ?_)
          · refine S_val (.bool true) (by kernel_rfl) (S_val (.bool false) (by kernel_rfl) (S_val (.bool true) (by kernel_rfl) (S_val (.bool false) (by kernel_rfl) (S_val (.bool false) (by kernel_rfl) (S_val (.bool false) (by kernel_rfl) (S_skip (by kernel_rfl) (S_skip (by kernel_rfl) (S_skip (by kernel_rfl) (S_val (.bool false) (by kernel_rfl) (S_val (.bool false) (by kernel_rfl) (S_skip (by kernel_rfl) (?_))))))))))))
            have HR := hr_pos HR c199
            refine S_skip (by kernel_rfl) (S_skip (by kernel_rfl) (S_val (.bool false) (by kernel_rfl) (S_val (.bool false) (by kernel_rfl) (S_skip (by kernel_rfl) (S_val (.bool false) (by kernel_rfl) (S_val (.bool false) (by kernel_rfl) (S_nil (?_))))))))
            refine R_ret hM198 rfl (.cons (.tmp _ (.bool false) (by kernel_rfl)) .nil) rfl ?_
            exact ⟨congrArg Ending.returned HR, hM198.below⟩
          · refine S_val (.bool false) (by kernel_rfl) (S_skip (by kernel_rfl) (S_skip (by kernel_rfl) (S_skip (by kernel_rfl) (S_val (.bool false) (by kernel_rfl) (S_val (.bool false) (by kernel_rfl) (S_skip (by kernel_rfl) (S_skip (by kernel_rfl) (S_skip (by kernel_rfl) (S_val (.bool false) (by kernel_rfl) (S_val (.bool false) (by kernel_rfl) (S_skip (by kernel_rfl) (?_))))))))))))
            have HR := hr_neg HR c199
            refine S_skip (by kernel_rfl) (S_skip (by kernel_rfl) (S_val (.bool false) (by kernel_rfl) (S_val (.bool false) (by kernel_rfl) (S_skip (by kernel_rfl) (S_val (.bool false) (by kernel_rfl) (S_val (.bool false) (by kernel_rfl) (S_nil (?_))))))))
            refine R_ret hM198 rfl (.cons (.tmp _ (.bool false) (by kernel_rfl)) .nil) rfl ?_
            exact ⟨congrArg Ending.returned HR, hM198.below⟩
      · refine S_val (.tuple #[.agg #[.int .i64 (wHi r153), .int .u64 (wLo r153)], .bool true]) (by kernel_rfl) (S_val (.agg #[.int .i64 (wHi r153), .int .u64 (wLo r153)]) (by kernel_rfl) (S_val (.bool true) (by kernel_rfl) (S_fresh none #[.int .i64 0, .int .u64 0] 24 hM152 (by kernel_rfl) (fun g201 w202 hM203 => S_store 0 0 #[.int .i64 (wHi r153), .int .u64 (wLo r153)] hM203 (by kernel_rfl) (fun w204 hM205 => S_val (.bool true) (by kernel_rfl) (S_nil (R_seq (R_region (S_load 3 0 (.agg #[.int .i64 (wHi a), .int .u64 (wLo a)]) hM205 (by kernel_rfl) (S_callB (a) [] hM205 (k_Wide a h_a w204) sub0 (by kernel_rfl) (fun x206 h207 b208 l209 hn210 A211 cap212 hc213 w214 hM215 => S_callB (-x206) [(A211, nv l209)] hM215 (k_Minus b208 l209 x206 hn210 A211 (List.length l209) cap212 rfl hc213 (by omega) w214 (hM215.ent 0 rfl)) (subc 0 rfl sub0) (by kernel_rfl) (fun x216 h217 b218 l219 hn220 A221 cap222 hc223 w224 hM225 => ?_))))))))))))
        have HR := hr_pos HR rfl
        have HR := hr_lt HR h207
        have HR := hr_lt HR h217
        refine S_call (toW x216) (fun r : Int × Bool => .tuple #[.agg #[.int .i64 (wHi r.1), .int .u64 (wLo r.1)], .bool r.2]) hM225 (k_ToWide b218 l219 x216 hn220 A221 (List.length l219) cap222 rfl hc223 (by omega) w224 (hM225.ent 0 rfl)) (by kernel_rfl) (fun r226 h227 w228 hM229 => ?_)
        have HR := hr_lt HR h227
        obtain ⟨r230, b232⟩ := r226
        cases b232
        · refine S_val (.tuple #[.agg #[.int .i64 (wHi r230), .int .u64 (wLo r230)], .bool false]) (by kernel_rfl) (S_val (.agg #[.int .i64 (wHi r230), .int .u64 (wLo r230)]) (by kernel_rfl) (S_val (.bool false) (by kernel_rfl) (S_fresh none #[.int .i64 0, .int .u64 0] 24 hM229 (by kernel_rfl) (fun g233 w234 hM235 => S_store 0 0 #[.int .i64 (wHi r230), .int .u64 (wLo r230)] hM235 (by kernel_rfl) (fun w236 hM237 => S_val (.bool false) (by kernel_rfl) (S_nil (R_seq (R_region (S_load 3 0 (.agg #[.int .i64 (wHi r12), .int .u64 (wLo r12)]) hM237 (by kernel_rfl) (S_load 2 0 (.agg #[.int .i64 (wHi r24), .int .u64 (wLo r24)]) hM237 (by kernel_rfl) (?_)))))))))))
          have HR := hr_neg HR Bool.false_ne_true
          refine S_dec ((r12 : Int) = r24) (eqv_W (x := r12) (y := r24) (by kernel_rfl) (by kernel_rfl) (by kernel_rfl)) (fun c238 => ?_) (fun c238 => ?_)
          · refine S_val (.bool true) (by kernel_rfl) (S_val (.bool false) (by kernel_rfl) (S_val (.bool true) (by kernel_rfl) (S_val (.bool false) (by kernel_rfl) (S_val (.bool false) (by kernel_rfl) (S_val (.bool false) (by kernel_rfl) (S_skip (by kernel_rfl) (S_skip (by kernel_rfl) (S_skip (by kernel_rfl) (S_val (.bool false) (by kernel_rfl) (S_val (.bool false) (by kernel_rfl) (S_skip (by kernel_rfl) (?_))))))))))))
            have HR := hr_pos HR c238
            refine S_skip (by kernel_rfl) (S_skip (by kernel_rfl) (S_val (.bool false) (by kernel_rfl) (S_val (.bool false) (by kernel_rfl) (S_skip (by kernel_rfl) (S_val (.bool false) (by kernel_rfl) (S_val (.bool false) (by kernel_rfl) (S_nil (?_))))))))
            refine R_ret hM237 rfl (.cons (.tmp _ (.bool false) (by kernel_rfl)) .nil) rfl ?_
            exact ⟨congrArg Ending.returned HR, hM237.below⟩
          · refine S_val (.bool false) (by kernel_rfl) (S_skip (by kernel_rfl) (S_skip (by kernel_rfl) (S_skip (by kernel_rfl) (S_val (.bool false) (by kernel_rfl) (S_val (.bool false) (by kernel_rfl) (S_skip (by kernel_rfl) (S_skip (by kernel_rfl) (S_skip (by kernel_rfl) (S_val (.bool false) (by kernel_rfl) (S_val (.bool false) (by kernel_rfl) (S_skip (by kernel_rfl) (?_))))))))))))
            have HR := hr_neg HR c238
            refine S_skip (by kernel_rfl) (S_skip (by kernel_rfl) (S_val (.bool false) (by kernel_rfl) (S_val (.bool false) (by kernel_rfl) (S_skip (by kernel_rfl) (S_val (.bool false) (by kernel_rfl) (S_val (.bool false) (by kernel_rfl) (S_nil (?_))))))))
            refine R_ret hM237 rfl (.cons (.tmp _ (.bool false) (by kernel_rfl)) .nil) rfl ?_
            exact ⟨congrArg Ending.returned HR, hM237.below⟩
        · refine S_val (.tuple #[.agg #[.int .i64 (wHi r230), .int .u64 (wLo r230)], .bool true]) (by kernel_rfl) (S_val (.agg #[.int .i64 (wHi r230), .int .u64 (wLo r230)]) (by kernel_rfl) (S_val (.bool true) (by kernel_rfl) (S_fresh none #[.int .i64 0, .int .u64 0] 24 hM229 (by kernel_rfl) (fun g239 w240 hM241 => S_store 0 0 #[.int .i64 (wHi r230), .int .u64 (wLo r230)] hM241 (by kernel_rfl) (fun w242 hM243 => S_val (.bool true) (by kernel_rfl) (S_nil (R_seq (R_region (S_load 3 0 (.agg #[.int .i64 (wHi r12), .int .u64 (wLo r12)]) hM243 (by kernel_rfl) (S_load 2 0 (.agg #[.int .i64 (wHi r24), .int .u64 (wLo r24)]) hM243 (by kernel_rfl) (?_)))))))))))
          have HR := hr_pos HR rfl
          refine S_dec ((r12 : Int) = r24) (eqv_W (x := r12) (y := r24) (by kernel_rfl) (by kernel_rfl) (by kernel_rfl)) (fun c244 => ?_) (fun c244 => ?_)
          · refine S_val (.bool true) (by kernel_rfl) (S_val (.bool false) (by kernel_rfl) (S_val (.bool true) (by kernel_rfl) (S_val (.bool false) (by kernel_rfl) (S_val (.bool false) (by kernel_rfl) (S_val (.bool false) (by kernel_rfl) (S_skip (by kernel_rfl) (S_skip (by kernel_rfl) (S_skip (by kernel_rfl) (S_val (.bool false) (by kernel_rfl) (S_val (.bool false) (by kernel_rfl) (S_skip (by kernel_rfl) (?_))))))))))))
            have HR := hr_pos HR c244
            refine S_skip (by kernel_rfl) (S_skip (by kernel_rfl) (S_val (.bool false) (by kernel_rfl) (S_val (.bool false) (by kernel_rfl) (S_skip (by kernel_rfl) (S_val (.bool false) (by kernel_rfl) (S_val (.bool false) (by kernel_rfl) (S_nil (?_))))))))
            refine R_ret hM243 rfl (.cons (.tmp _ (.bool false) (by kernel_rfl)) .nil) rfl ?_
            exact ⟨congrArg Ending.returned HR, hM243.below⟩
          · refine S_val (.bool false) (by kernel_rfl) (S_skip (by kernel_rfl) (S_skip (by kernel_rfl) (S_skip (by kernel_rfl) (S_val (.bool false) (by kernel_rfl) (S_val (.bool false) (by kernel_rfl) (S_skip (by kernel_rfl) (S_skip (by kernel_rfl) (S_skip (by kernel_rfl) (S_val (.bool false) (by kernel_rfl) (S_val (.bool false) (by kernel_rfl) (S_skip (by kernel_rfl) (?_))))))))))))
            have HR := hr_neg HR c244
            refine S_skip (by kernel_rfl) (S_skip (by kernel_rfl) (S_val (.bool false) (by kernel_rfl) (S_val (.bool false) (by kernel_rfl) (S_skip (by kernel_rfl) (S_val (.bool false) (by kernel_rfl) (S_val (.bool false) (by kernel_rfl) (S_nil (?_))))))))
            refine R_ret hM243 rfl (.cons (.tmp _ (.bool false) (by kernel_rfl)) .nil) rfl ?_
            exact ⟨congrArg Ending.returned HR, hM243.below⟩
  · refine S_val (.tuple #[.agg #[.int .i64 (wHi r12), .int .u64 (wLo r12)], .bool true]) (by kernel_rfl) (S_val (.agg #[.int .i64 (wHi r12), .int .u64 (wLo r12)]) (by kernel_rfl) (S_val (.bool true) (by kernel_rfl) (S_fresh none #[.int .i64 0, .int .u64 0] 24 hM11 (by kernel_rfl) (fun g248 w249 hM250 => S_store 0 0 #[.int .i64 (wHi r12), .int .u64 (wLo r12)] hM250 (by kernel_rfl) (fun w251 hM252 => S_val (.bool true) (by kernel_rfl) (S_nil (R_seq (R_region (S_val (.slice AL (List.length l6) capL) (by kernel_rfl) (S_call (addW l6) (fun r : Int × Bool => .tuple #[.agg #[.int .i64 (wHi r.1), .int .u64 (wLo r.1)], .bool r.2]) hM252 (k_Add l6 AL capL (takeI hIL h7) (take8 (by assumption) h7) w251 (Rd.stay (Rd.cutE hRL h7) (St.below hM252))) (by kernel_rfl) (fun r253 h254 w255 hM256 => ?_)))))))))))
    have HR := hr_pos HR rfl
    have HR := hr_lt HR h254
    obtain ⟨r257, b259⟩ := r253
    cases b259
    · refine S_val (.tuple #[.agg #[.int .i64 (wHi r257), .int .u64 (wLo r257)], .bool false]) (by kernel_rfl) (S_val (.agg #[.int .i64 (wHi r257), .int .u64 (wLo r257)]) (by kernel_rfl) (S_val (.bool false) (by kernel_rfl) (S_fresh none #[.int .i64 0, .int .u64 0] 24 hM256 (by kernel_rfl) (fun g260 w261 hM262 => S_store 0 0 #[.int .i64 (wHi r257), .int .u64 (wLo r257)] hM262 (by kernel_rfl) (fun w263 hM264 => S_val (.bool false) (by kernel_rfl) (S_nil (R_seq (R_region (S_load 2 0 (.agg #[.int .i64 (wHi a), .int .u64 (wLo a)]) hM264 (by kernel_rfl) (S_call (wneg2 a) (fun r : Int × Bool => .tuple #[.agg #[.int .i64 (wHi r.1), .int .u64 (wLo r.1)], .bool r.2]) hM264 (c_wide_Neg a h_a w263) (by kernel_rfl) (fun r265 h266 w267 hM268 => ?_)))))))))))
      have HR := hr_neg HR Bool.false_ne_true
      have HR := hr_lt HR h266
      obtain ⟨r269, b271⟩ := r265
      cases b271
      · refine S_val (.tuple #[.agg #[.int .i64 (wHi r269), .int .u64 (wLo r269)], .bool false]) (by kernel_rfl) (S_val (.agg #[.int .i64 (wHi r269), .int .u64 (wLo r269)]) (by kernel_rfl) (S_val (.bool false) (by kernel_rfl) (S_fresh none #[.int .i64 0, .int .u64 0] 24 hM268 (by kernel_rfl) (fun g272 w273 hM274 => S_store 0 0 #[.int .i64 (wHi r269), .int .u64 (wLo r269)] hM274 (by kernel_rfl) (fun w275 hM276 => S_val (.bool false) (by kernel_rfl) (S_nil (R_seq (R_region (S_load 3 0 (.agg #[.int .i64 (wHi a), .int .u64 (wLo a)]) hM276 (by kernel_rfl) (S_callB (a) [] hM276 (k_Wide a h_a w275) sub0 (by kernel_rfl) (fun x277 h278 b279 l280 hn281 A282 cap283 hc284 w285 hM286 => S_callB (-x277) [(A282, nv l280)] hM286 (k_Minus b279 l280 x277 hn281 A282 (List.length l280) cap283 rfl hc284 (by omega) w285 (hM286.ent 0 rfl)) (subc 0 rfl sub0) (by kernel_rfl) (fun x287 h288 b289 l290 hn291 A292 cap293 hc294 w295 hM296 => ?_))))))))))))
        have HR := hr_neg HR Bool.false_ne_true
        have HR := hr_lt HR h278
        have HR := hr_lt HR h288
        refine S_call (toW x287) (fun r : Int × Bool => .tuple #[.agg #[.int .i64 (wHi r.1), .int .u64 (wLo r.1)], .bool r.2]) hM296 (k_ToWide b289 l290 x287 hn291 A292 (List.length l290) cap293 rfl hc294 (by omega) w295 (hM296.ent 0 rfl)) (by kernel_rfl) (fun r297 h298 w299 hM300 => ?_)
        have HR := hr_lt HR h298
        obtain ⟨r301, b303⟩ := r297
        cases b303
        · refine S_val (.tuple #[.agg #[.int .i64 (wHi r301), .int .u64 (wLo r301)], .bool false]) (by kernel_rfl) (S_val (.agg #[.int .i64 (wHi r301), .int .u64 (wLo r301)]) (by kernel_rfl) (S_val (.bool false) (by kernel_rfl) (S_fresh none #[.int .i64 0, .int .u64 0] 24 hM300 (by kernel_rfl) (fun g304 w305 hM306 => S_store 0 0 #[.int .i64 (wHi r301), .int .u64 (wLo r301)] hM306 (by kernel_rfl) (fun w307 hM308 => S_val (.bool false) (by kernel_rfl) (S_nil (R_seq (R_region (S_load 3 0 (.agg #[.int .i64 (wHi r12), .int .u64 (wLo r12)]) hM308 (by kernel_rfl) (S_load 2 0 (.agg #[.int .i64 (wHi r257), .int .u64 (wLo r257)]) hM308 (by kernel_rfl) (?_)))))))))))
          have HR := hr_neg HR Bool.false_ne_true
          refine S_dec ((r12 : Int) = r257) (eqv_W (x := r12) (y := r257) (by kernel_rfl) (by kernel_rfl) (by kernel_rfl)) (fun c309 => ?_) (fun c309 => ?_)
          · refine S_val (.bool true) (by kernel_rfl) (S_val (.bool true) (by kernel_rfl) (S_val (.bool false) (by kernel_rfl) (S_val (.bool false) (by kernel_rfl) (S_val (.bool false) (by kernel_rfl) (S_val (.bool false) (by kernel_rfl) (S_skip (by kernel_rfl) (S_skip (by kernel_rfl) (S_skip (by kernel_rfl) (S_val (.bool false) (by kernel_rfl) (S_val (.bool false) (by kernel_rfl) (S_skip (by kernel_rfl) (?_))))))))))))
            have HR := hr_pos HR c309
            refine S_skip (by kernel_rfl) (S_skip (by kernel_rfl) (S_val (.bool false) (by kernel_rfl) (S_val (.bool false) (by kernel_rfl) (S_skip (by kernel_rfl) (S_val (.bool false) (by kernel_rfl) (S_val (.bool false) (by kernel_rfl) (S_nil (?_))))))))
            refine R_ret hM308 rfl (.cons (.tmp _ (.bool false) (by kernel_rfl)) .nil) rfl ?_
            exact ⟨congrArg Ending.returned HR, hM308.below⟩
          · refine S_val (.bool false) (by kernel_rfl) (S_skip (by kernel_rfl) (S_skip (by kernel_rfl) (S_skip (by kernel_rfl) (S_val (.bool false) (by kernel_rfl) (S_val (.bool false) (by kernel_rfl) (S_skip (by kernel_rfl) (S_skip (by kernel_rfl) (S_skip (by kernel_rfl) (S_val (.bool false) (by kernel_rfl) (S_val (.bool false) (by kernel_rfl) (S_skip (by kernel_rfl) (?_))))))))))))
            have HR := hr_neg HR c309
            refine S_skip (by kernel_rfl) (S_skip (by kernel_rfl) (S_val (.bool false) (by kernel_rfl) (S_val (.bool false) (by kernel_rfl) (S_skip (by kernel_rfl) (S_val (.bool false) (by kernel_rfl) (S_val (.bool false) (by kernel_rfl) (S_nil (?_))))))))
            refine R_ret hM308 rfl (.cons (.tmp _ (.bool false) (by kernel_rfl)) .nil) rfl ?_
            exact ⟨congrArg Ending.returned HR, hM308.below⟩
        · refine S_val (.tuple #[.agg #[.int .i64 (wHi r301), .int .u64 (wLo r301)], .bool true]) (by kernel_rfl) (S_val (.agg #[.int .i64 (wHi r301), .int .u64 (wLo r301)]) (by kernel_rfl) (S_val (.bool true) (by kernel_rfl) (S_fresh none #[.int .i64 0, .int .u64 0] 24 hM300 (by kernel_rfl) (fun g310 w311 hM312 => S_store 0 0 #[.int .i64 (wHi r301), .int .u64 (wLo r301)] hM312 (by kernel_rfl) (fun w313 hM314 => S_val (.bool true) (by kernel_rfl) (S_nil (R_seq (R_region (S_load 3 0 (.agg #[.int .i64 (wHi r12), .int .u64 (wLo r12)]) hM314 (by kernel_rfl) (S_load 2 0 (.agg #[.int .i64 (wHi r257), .int .u64 (wLo r257)]) hM314 (by kernel_rfl) (?_)))))))))))
          have HR := hr_pos HR rfl
          refine S_dec ((r12 : Int) = r257) (eqv_W (x := r12) (y := r257) (by kernel_rfl) (by kernel_rfl) (by kernel_rfl)) (fun c315 => ?_) (fun c315 => ?_)
          · refine S_val (.bool true) (by kernel_rfl) (S_val (.bool true) (by kernel_rfl) (S_val (.bool false) (by kernel_rfl) (S_val (.bool false) (by kernel_rfl) (S_val (.bool false) (by kernel_rfl) (S_val (.bool false) (by kernel_rfl) (S_skip (by kernel_rfl) (S_skip (by kernel_rfl) (S_skip (by kernel_rfl) (S_val (.bool false) (by kernel_rfl) (S_val (.bool false) (by kernel_rfl) (S_skip (by kernel_rfl) (?_))))))))))))
            have HR := hr_pos HR c315
            refine S_skip (by kernel_rfl) (S_skip (by kernel_rfl) (S_val (.bool false) (by kernel_rfl) (S_val (.bool false) (by kernel_rfl) (S_skip (by kernel_rfl) (S_val (.bool false) (by kernel_rfl) (S_val (.bool false) (by kernel_rfl) (S_nil (?_))))))))
            refine R_ret hM314 rfl (.cons (.tmp _ (.bool false) (by kernel_rfl)) .nil) rfl ?_
            exact ⟨congrArg Ending.returned HR, hM314.below⟩
          · refine S_val (.bool false) (by kernel_rfl) (S_skip (by kernel_rfl) (S_skip (by kernel_rfl) (S_skip (by kernel_rfl) (S_val (.bool false) (by kernel_rfl) (S_val (.bool false) (by kernel_rfl) (S_skip (by kernel_rfl) (S_skip (by kernel_rfl) (S_skip (by kernel_rfl) (S_val (.bool false) (by kernel_rfl) (S_val (.bool false) (by kernel_rfl) (S_skip (by kernel_rfl) (?_))))))))))))
            have HR := hr_neg HR c315
            refine S_skip (by kernel_rfl) (S_skip (by kernel_rfl) (S_val (.bool false) (by kernel_rfl) (S_val (.bool false) (by kernel_rfl) (S_skip (by kernel_rfl) (S_val (.bool false) (by kernel_rfl) (S_val (.bool false) (by kernel_rfl) (S_nil (?_))))))))
            refine R_ret hM314 rfl (.cons (.tmp _ (.bool false) (by kernel_rfl)) .nil) rfl ?_
            exact ⟨congrArg Ending.returned HR, hM314.below⟩
      · refine S_val (.tuple #[.agg #[.int .i64 (wHi r269), .int .u64 (wLo r269)], .bool true]) (by kernel_rfl) (S_val (.agg #[.int .i64 (wHi r269), .int .u64 (wLo r269)]) (by kernel_rfl) (S_val (.bool true) (by kernel_rfl) (S_fresh none #[.int .i64 0, .int .u64 0] 24 hM268 (by kernel_rfl) (fun g317 w318 hM319 => S_store 0 0 #[.int .i64 (wHi r269), .int .u64 (wLo r269)] hM319 (by kernel_rfl) (fun w320 hM321 => S_val (.bool true) (by kernel_rfl) (S_nil (R_seq (R_region (S_load 3 0 (.agg #[.int .i64 (wHi a), .int .u64 (wLo a)]) hM321 (by kernel_rfl) (S_callB (a) [] hM321 (k_Wide a h_a w320) sub0 (by kernel_rfl) (fun x322 h323 b324 l325 hn326 A327 cap328 hc329 w330 hM331 => S_callB (-x322) [(A327, nv l325)] hM331 (k_Minus b324 l325 x322 hn326 A327 (List.length l325) cap328 rfl hc329 (by omega) w330 (hM331.ent 0 rfl)) (subc 0 rfl sub0) (by kernel_rfl) (fun x332 h333 b334 l335 hn336 A337 cap338 hc339 w340 hM341 => ?_))))))))))))
        have HR := hr_pos HR rfl
        have HR := hr_lt HR h323
        have HR := hr_lt HR h333
        refine S_call (toW x332) (fun r : Int × Bool => .tuple #[.agg #[.int .i64 (wHi r.1), .int .u64 (wLo r.1)], .bool r.2]) hM341 (k_ToWide b334 l335 x332 hn336 A337 (List.length l335) cap338 rfl hc339 (by omega) w340 (hM341.ent 0 rfl)) (by kernel_rfl) (fun r342 h343 w344 hM345 => ?_)
        have HR := hr_lt HR h343
        obtain ⟨r346, b348⟩ := r342
        cases b348
        · refine S_val (.tuple #[.agg #[.int .i64 (wHi r346), .int .u64 (wLo r346)], .bool false]) (by kernel_rfl) (S_val (.agg #[.int .i64 (wHi r346), .int .u64 (wLo r346)]) (by kernel_rfl) (S_val (.bool false) (by kernel_rfl) (S_fresh none #[.int .i64 0, .int .u64 0] 24 hM345 (by kernel_rfl) (fun g349 w350 hM351 => S_store 0 0 #[.int .i64 (wHi r346), .int .u64 (wLo r346)] hM351 (by kernel_rfl) (fun w352 hM353 => S_val (.bool false) (by kernel_rfl) (S_nil (R_seq (R_region (S_load 3 0 (.agg #[.int .i64 (wHi r12), .int .u64 (wLo r12)]) hM353 (by kernel_rfl) (S_load 2 0 (.agg #[.int .i64 (wHi r257), .int .u64 (wLo r257)]) hM353 (by kernel_rfl) (?_)))))))))))
          have HR := hr_neg HR Bool.false_ne_true
          refine S_dec ((r12 : Int) = r257) (eqv_W (x := r12) (y := r257) (by kernel_rfl) (by kernel_rfl) (by kernel_rfl)) (fun c354 => ?_) (fun c354 => ?_)
          · refine S_val (.bool true) (by kernel_rfl) (S_val (.bool true) (by kernel_rfl) (S_val (.bool false) (by kernel_rfl) (S_val (.bool false) (by kernel_rfl) (S_val (.bool false) (by kernel_rfl) (S_val (.bool false) (by kernel_rfl) (S_skip (by kernel_rfl) (S_skip (by kernel_rfl) (S_skip (by kernel_rfl) (S_val (.bool false) (by kernel_rfl) (S_val (.bool false) (by kernel_rfl) (S_skip (by kernel_rfl) (?_))))))))))))
            have HR := hr_pos HR c354
            refine S_skip (by kernel_rfl) (S_skip (by kernel_rfl) (S_val (.bool false) (by kernel_rfl) (S_val (.bool false) (by kernel_rfl) (S_skip (by kernel_rfl) (S_val (.bool false) (by kernel_rfl) (S_val (.bool false) (by kernel_rfl) (S_nil (?_))))))))
            refine R_ret hM353 rfl (.cons (.tmp _ (.bool false) (by kernel_rfl)) .nil) rfl ?_
            exact ⟨congrArg Ending.returned HR, hM353.below⟩
          · refine S_val (.bool false) (by kernel_rfl) (S_skip (by kernel_rfl) (S_skip (by kernel_rfl) (S_skip (by kernel_rfl) (S_val (.bool false) (by kernel_rfl) (S_val (.bool false) (by kernel_rfl) (S_skip (by kernel_rfl) (S_skip (by kernel_rfl) (S_skip (by kernel_rfl) (S_val (.bool false) (by kernel_rfl) (S_val (.bool false) (by kernel_rfl) (S_skip (by kernel_rfl) (?_))))))))))))
            have HR := hr_neg HR c354
            refine S_skip (by kernel_rfl) (S_skip (by kernel_rfl) (S_val (.bool false) (by kernel_rfl) (S_val (.bool false) (by kernel_rfl) (S_skip (by kernel_rfl) (S_val (.bool false) (by kernel_rfl) (S_val (.bool false) (by kernel_rfl) (S_nil (?_))))))))
            refine R_ret hM353 rfl (.cons (.tmp _ (.bool false) (by kernel_rfl)) .nil) rfl ?_
            exact ⟨congrArg Ending.returned HR, hM353.below⟩
        · refine S_val (.tuple #[.agg #[.int .i64 (wHi r346), .int .u64 (wLo r346)], .bool true]) (by kernel_rfl) (S_val (.agg #[.int .i64 (wHi r346), .int .u64 (wLo r346)]) (by kernel_rfl) (S_val (.bool true) (by kernel_rfl) (S_fresh none #[.int .i64 0, .int .u64 0] 24 hM345 (by kernel_rfl) (fun g355 w356 hM357 => S_store 0 0 #[.int .i64 (wHi r346), .int .u64 (wLo r346)] hM357 (by kernel_rfl) (fun w358 hM359 => S_val (.bool true) (by kernel_rfl) (S_nil (R_seq (R_region (S_load 3 0 (.agg #[.int .i64 (wHi r12), .int .u64 (wLo r12)]) hM359 (by kernel_rfl) (S_load 2 0 (.agg #[.int .i64 (wHi r257), .int .u64 (wLo r257)]) hM359 (by kernel_rfl) (?_)))))))))))
          have HR := hr_pos HR rfl
          refine S_dec ((r12 : Int) = r257) (eqv_W (x := r12) (y := r257) (by kernel_rfl) (by kernel_rfl) (by kernel_rfl)) (fun c360 => ?_) (fun c360 => ?_)
          · refine S_val (.bool true) (by kernel_rfl) (S_val (.bool true) (by kernel_rfl) (S_val (.bool false) (by kernel_rfl) (S_val (.bool false) (by kernel_rfl) (S_val (.bool false) (by kernel_rfl) (S_val (.bool false) (by kernel_rfl) (S_skip (by kernel_rfl) (S_skip (by kernel_rfl) (S_skip (by kernel_rfl) (S_val (.bool false) (by kernel_rfl) (S_val (.bool false) (by kernel_rfl) (S_skip (by kernel_rfl) (?_))))))))))))
            have HR := hr_pos HR c360
            refine S_skip (by kernel_rfl) (S_skip (by kernel_rfl) (S_val (.bool false) (by kernel_rfl) (S_val (.bool false) (by kernel_rfl) (S_skip (by kernel_rfl) (S_val (.bool false) (by kernel_rfl) (S_val (.bool false) (by kernel_rfl) (S_nil (?_))))))))
            refine R_ret hM359 rfl (.cons (.tmp _ (.bool false) (by kernel_rfl)) .nil) rfl ?_
            exact ⟨congrArg Ending.returned HR, hM359.below⟩
          · refine S_val (.bool false) (by kernel_rfl) (S_skip (by kernel_rfl) (S_skip (by kernel_rfl) (S_skip (by kernel_rfl) (S_val (.bool false) (by kernel_rfl) (S_val (.bool false) (by kernel_rfl) (S_skip (by kernel_rfl) (S_skip (by kernel_rfl) (S_skip (by kernel_rfl) (S_val (.bool false) (by kernel_rfl) (S_val (.bool false) (by kernel_rfl) (S_skip (by kernel_rfl) (?_))))))))))))
            have HR := hr_neg HR c360
            refine S_skip (by kernel_rfl) (S_skip (by kernel_rfl) (S_val (.bool false) (by kernel_rfl) (S_val (.bool false) (by kernel_rfl) (S_skip (by kernel_rfl) (S_val (.bool false) (by kernel_rfl) (S_val (.bool false) (by kernel_rfl) (S_nil (?_))))))))
            refine R_ret hM359 rfl (.cons (.tmp _ (.bool false) (by kernel_rfl)) .nil) rfl ?_
            exact ⟨congrArg Ending.returned HR, hM359.below⟩
    · refine S_val (.tuple #[.agg #[.int .i64 (wHi r257), .int .u64 (wLo r257)], .bool true]) (by kernel_rfl) (S_val (.agg #[.int .i64 (wHi r257), .int .u64 (wLo r257)]) (by kernel_rfl) (S_val (.bool true) (by kernel_rfl) (S_fresh none #[.int .i64 0, .int .u64 0] 24 hM256 (by kernel_rfl) (fun g363 w364 hM365 => S_store 0 0 #[.int .i64 (wHi r257), .int .u64 (wLo r257)] hM365 (by kernel_rfl) (fun w366 hM367 => S_val (.bool true) (by kernel_rfl) (S_nil (R_seq (R_region (S_load 2 0 (.agg #[.int .i64 (wHi a), .int .u64 (wLo a)]) hM367 (by kernel_rfl) (S_call (wneg2 a) (fun r : Int × Bool => .tuple #[.agg #[.int .i64 (wHi r.1), .int .u64 (wLo r.1)], .bool r.2]) hM367 (c_wide_Neg a h_a w366) (by kernel_rfl) (fun r368 h369 w370 hM371 => ?_)))))))))))
      have HR := hr_pos HR rfl
      have HR := hr_lt HR h369
      obtain ⟨r372, b374⟩ := r368
      cases b374
      · refine S_val (.tuple #[.agg #[.int .i64 (wHi r372), .int .u64 (wLo r372)], .bool false]) (by kernel_rfl) (S_val (.agg #[.int .i64 (wHi r372), .int .u64 (wLo r372)]) (by kernel_rfl) (S_val (.bool false) (by kernel_rfl) (S_fresh none #[.int .i64 0, .int .u64 0] 24 hM371 (by kernel_rfl) (fun g375 w376 hM377 => S_store 0 0 #[.int .i64 (wHi r372), .int .u64 (wLo r372)] hM377 (by kernel_rfl) (fun w378 hM379 => S_val (.bool false) (by kernel_rfl) (S_nil (R_seq (R_region (S_load 3 0 (.agg #[.int .i64 (wHi a), .int .u64 (wLo a)]) hM379 (by kernel_rfl) (S_callB (a) [] hM379 (k_Wide a h_a w378) sub0 (by kernel_rfl) (fun x380 h381 b382 l383 hn384 A385 cap386 hc387 w388 hM389 => S_callB (-x380) [(A385, nv l383)] hM389 (k_Minus b382 l383 x380 hn384 A385 (List.length l383) cap386 rfl hc387 (by omega) w388 (hM389.ent 0 rfl)) (subc 0 rfl sub0) (by kernel_rfl) (fun x390 h391 b392 l393 hn394 A395 cap396 hc397 w398 hM399 => ?_))))))))))))
        have HR := hr_neg HR Bool.false_ne_true
        have HR := hr_lt HR h381
        have HR := hr_lt HR h391
        refine S_call (toW x390) (fun r : Int × Bool => .tuple #[.agg #[.int .i64 (wHi r.1), .int .u64 (wLo r.1)], .bool r.2]) hM399 (k_ToWide b392 l393 x390 hn394 A395 (List.length l393) cap396 rfl hc397 (by omega) w398 (hM399.ent 0 rfl)) (by kernel_rfl) (fun r400 h401 w402 hM403 => ?_)
        have HR := hr_lt HR h401
        obtain ⟨r404, b406⟩ := r400
        cases b406
        · refine S_val (.tuple #[.agg #[.int .i64 (wHi r404), .int .u64 (wLo r404)], .bool false]) (by kernel_rfl) (S_val (.agg #[.int .i64 (wHi r404), .int .u64 (wLo r404)]) (by kernel_rfl) (S_val (.bool false) (by kernel_rfl) (S_fresh none #[.int .i64 0, .int .u64 0] 24 hM403 (by kernel_rfl) (fun g407 w408 hM409 => S_store 0 0 #[.int .i64 (wHi r404), .int .u64 (wLo r404)] hM409 (by kernel_rfl) (fun w410 hM411 => S_val (.bool false) (by kernel_rfl) (S_nil (R_seq (R_region (S_load 3 0 (.agg #[.int .i64 (wHi r12), .int .u64 (wLo r12)]) hM411 (by kernel_rfl) (S_load 2 0 (.agg #[.int .i64 (wHi r257), .int .u64 (wLo r257)]) hM411 (by kernel_rfl) (?_)))))))))))
          have HR := hr_neg HR Bool.false_ne_true
          refine S_dec ((r12 : Int) = r257) (eqv_W (x := r12) (y := r257) (by kernel_rfl) (by kernel_rfl) (by kernel_rfl)) (fun c412 => ?_) (fun c412 => ?_)
          · refine S_val (.bool true) (by kernel_rfl) (S_val (.bool true) (by kernel_rfl) (S_val (.bool true) (by kernel_rfl) (S_val (.bool true) (by kernel_rfl) (S_val (.bool true) (by kernel_rfl) (S_val (.bool true) (by kernel_rfl) (S_load 1 0 (.agg #[.int .i64 (wHi r372), .int .u64 (wLo r372)]) hM411 (by kernel_rfl) (S_load 0 0 (.agg #[.int .i64 (wHi r404), .int .u64 (wLo r404)]) hM411 (by kernel_rfl) (?_))))))))
            have HR := hr_pos HR c412
            refine S_dec ((r372 : Int) = r404) (eqv_W (x := r372) (y := r404) (by kernel_rfl) (by kernel_rfl) (by kernel_rfl)) (fun c413 => ?_) (fun c413 => ?_)
            · refine S_val (.bool true) (by kernel_rfl) (S_val (.bool true) (by kernel_rfl) (S_val (.bool false) (by kernel_rfl) (S_val (.bool false) (by kernel_rfl) (S_val (.bool true) (by kernel_rfl) (S_val (.bool true) (by kernel_rfl) (S_val (.bool true) (by kernel_rfl) (S_call (works01 ) (fun r : Bool => .bool r) hM411 (c_works01  w410) (by kernel_rfl) (fun r414 h415 w416 hM417 => ?_))))))))
              have HR := hr_pos HR c413
              have HR := hr_lt HR h415
              cases r414
              · refine S_val (.bool false) (by kernel_rfl) (S_val (.bool false) (by kernel_rfl) (S_nil (?_)))
                have HR := hr_neg HR Bool.false_ne_true
                refine R_ret hM417 rfl (.cons (.tmp _ (.bool false) (by kernel_rfl)) .nil) rfl ?_
                exact ⟨congrArg Ending.returned HR, hM417.below⟩
              · refine S_val (.bool true) (by kernel_rfl) (S_val (.bool true) (by kernel_rfl) (S_nil (?_)))
                have HR := hr_pos HR rfl
                refine R_ret hM417 rfl (.cons (.tmp _ (.bool true) (by kernel_rfl)) .nil) rfl ?_
                exact ⟨congrArg Ending.returned HR, hM417.below⟩
            · refine S_val (.bool false) (by kernel_rfl) (S_val (.bool false) (by kernel_rfl) (S_skip (by kernel_rfl) (S_skip (by kernel_rfl) (S_skip (by kernel_rfl) (S_val (.bool false) (by kernel_rfl) (S_val (.bool false) (by kernel_rfl) (S_skip (by kernel_rfl) (S_val (.bool false) (by kernel_rfl) (S_val (.bool false) (by kernel_rfl) (S_nil (?_)))))))))))
              have HR := hr_neg HR c413
              refine R_ret hM411 rfl (.cons (.tmp _ (.bool false) (by kernel_rfl)) .nil) rfl ?_
              exact ⟨congrArg Ending.returned HR, hM411.below⟩
          · refine S_val (.bool false) (by kernel_rfl) (S_skip (by kernel_rfl) (S_skip (by kernel_rfl) (S_skip (by kernel_rfl) (S_val (.bool false) (by kernel_rfl) (S_val (.bool false) (by kernel_rfl) (S_skip (by kernel_rfl) (S_skip (by kernel_rfl) (S_skip (by kernel_rfl) (S_val (.bool false) (by kernel_rfl) (S_val (.bool false) (by kernel_rfl) (S_skip (by kernel_rfl) (?_))))))))))))
            have HR := hr_neg HR c412
            refine S_skip (by kernel_rfl) (S_skip (by kernel_rfl) (S_val (.bool false) (by kernel_rfl) (S_val (.bool false) (by kernel_rfl) (S_skip (by kernel_rfl) (S_val (.bool false) (by kernel_rfl) (S_val (.bool false) (by kernel_rfl) (S_nil (?_))))))))
            refine R_ret hM411 rfl (.cons (.tmp _ (.bool false) (by kernel_rfl)) .nil) rfl ?_
            exact ⟨congrArg Ending.returned HR, hM411.below⟩
        · refine S_val (.tuple #[.agg #[.int .i64 (wHi r404), .int .u64 (wLo r404)], .bool true]) (by kernel_rfl) (S_val (.agg #[.int .i64 (wHi r404), .int .u64 (wLo r404)]) (by kernel_rfl) (S_val (.bool true) (by kernel_rfl) (S_fresh none #[.int .i64 0, .int .u64 0] 24 hM403 (by kernel_rfl) (fun g419 w420 hM421 => S_store 0 0 #[.int .i64 (wHi r404), .int .u64 (wLo r404)] hM421 (by kernel_rfl) (fun w422 hM423 => S_val (.bool true) (by kernel_rfl) (S_nil (R_seq (R_region (S_load 3 0 (.agg #[.int .i64 (wHi r12), .int .u64 (wLo r12)]) hM423 (by kernel_rfl) (S_load 2 0 (.agg #[.int .i64 (wHi r257), .int .u64 (wLo r257)]) hM423 (by kernel_rfl) (?_)))))))))))
          have HR := hr_pos HR rfl
          refine S_dec ((r12 : Int) = r257) (eqv_W (x := r12) (y := r257) (by kernel_rfl) (by kernel_rfl) (by kernel_rfl)) (fun c424 => ?_) (fun c424 => ?_)
          · refine S_val (.bool true) (by kernel_rfl) (S_val (.bool true) (by kernel_rfl) (S_val (.bool true) (by kernel_rfl) (S_val (.bool true) (by kernel_rfl) (S_val (.bool true) (by kernel_rfl) (S_val (.bool true) (by kernel_rfl) (S_load 1 0 (.agg #[.int .i64 (wHi r372), .int .u64 (wLo r372)]) hM423 (by kernel_rfl) (S_load 0 0 (.agg #[.int .i64 (wHi r404), .int .u64 (wLo r404)]) hM423 (by kernel_rfl) (?_))))))))
            have HR := hr_pos HR c424
            refine S_dec ((r372 : Int) = r404) (eqv_W (x := r372) (y := r404) (by kernel_rfl) (by kernel_rfl) (by kernel_rfl)) (fun c425 => ?_) (fun c425 => ?_)
            · refine S_val (.bool true) (by kernel_rfl) (S_val (.bool true) (by kernel_rfl) (S_val (.bool false) (by kernel_rfl) (S_val (.bool true) (by kernel_rfl) (S_val (.bool false) (by kernel_rfl) (S_val (.bool false) (by kernel_rfl) (S_val (.bool false) (by kernel_rfl) (S_skip (by kernel_rfl) (S_val (.bool false) (by kernel_rfl) (S_val (.bool false) (by kernel_rfl) (S_nil (?_)))))))))))
              have HR := hr_pos HR c425
              refine R_ret hM423 rfl (.cons (.tmp _ (.bool false) (by kernel_rfl)) .nil) rfl ?_
              exact ⟨congrArg Ending.returned HR, hM423.below⟩
            · refine S_val (.bool false) (by kernel_rfl) (S_val (.bool false) (by kernel_rfl) (S_skip (by kernel_rfl) (S_skip (by kernel_rfl) (S_skip (by kernel_rfl) (S_val (.bool false) (by kernel_rfl) (S_val (.bool false) (by kernel_rfl) (S_skip (by kernel_rfl) (S_val (.bool false) (by kernel_rfl) (S_val (.bool false) (by kernel_rfl) (S_nil (?_)))))))))))
              have HR := hr_neg HR c425
              refine R_ret hM423 rfl (.cons (.tmp _ (.bool false) (by kernel_rfl)) .nil) rfl ?_
              exact ⟨congrArg Ending.returned HR, hM423.below⟩
          · refine S_val (.bool false) (by kernel_rfl) (S_skip (by kernel_rfl) (S_skip (by kernel_rfl) (S_skip (by kernel_rfl) (S_val (.bool false) (by kernel_rfl) (S_val (.bool false) (by kernel_rfl) (S_skip (by kernel_rfl) (S_skip (by kernel_rfl) (S_skip (by kernel_rfl) (S_val (.bool false) (by kernel_rfl) (S_val (.bool false) (by kernel_rfl) (S_skip (by kernel_rfl) (?_))))))))))))
            have HR := hr_neg HR c424
            refine S_skip (by kernel_rfl) (S_skip (by kernel_rfl) (S_val (.bool false) (by kernel_rfl) (S_val (.bool false) (by kernel_rfl) (S_skip (by kernel_rfl) (S_val (.bool false) (by kernel_rfl) (S_val (.bool false) (by kernel_rfl) (S_nil (?_))))))))
            refine R_ret hM423 rfl (.cons (.tmp _ (.bool false) (by kernel_rfl)) .nil) rfl ?_
            exact ⟨congrArg Ending.returned HR, hM423.below⟩
      · refine S_val (.tuple #[.agg #[.int .i64 (wHi r372), .int .u64 (wLo r372)], .bool true]) (by kernel_rfl) (S_val (.agg #[.int .i64 (wHi r372), .int .u64 (wLo r372)]) (by kernel_rfl) (S_val (.bool true) (by kernel_rfl) (S_fresh none #[.int .i64 0, .int .u64 0] 24 hM371 (by kernel_rfl) (fun g427 w428 hM429 => S_store 0 0 #[.int .i64 (wHi r372), .int .u64 (wLo r372)] hM429 (by kernel_rfl) (fun w430 hM431 => S_val (.bool true) (by kernel_rfl) (S_nil (R_seq (R_region (S_load 3 0 (.agg #[.int .i64 (wHi a), .int .u64 (wLo a)]) hM431 (by kernel_rfl) (S_callB (a) [] hM431 (k_Wide a h_a w430) sub0 (by kernel_rfl) (fun x432 h433 b434 l435 hn436 A437 cap438 hc439 w440 hM441 => S_callB (-x432) [(A437, nv l435)] hM441 (k_Minus b434 l435 x432 hn436 A437 (List.length l435) cap438 rfl hc439 (by omega) w440 (hM441.ent 0 rfl)) (subc 0 rfl sub0) (by kernel_rfl) (fun x442 h443 b444 l445 hn446 A447 cap448 hc449 w450 hM451 => ?_))))))))))))
        have HR := hr_pos HR rfl
        have HR := hr_lt HR h433
        have HR := hr_lt HR h443
        refine S_call (toW x442) (fun r : Int × Bool => .tuple #[.agg #[.int .i64 (wHi r.1), .int .u64 (wLo r.1)], .bool r.2]) hM451 (k_ToWide b444 l445 x442 hn446 A447 (List.length l445) cap448 rfl hc449 (by omega) w450 (hM451.ent 0 rfl)) (by kernel_rfl) (fun r452 h453 w454 hM455 => ?_)
        have HR := hr_lt HR h453
        obtain ⟨r456, b458⟩ := r452
        cases b458
        · refine S_val (.tuple #[.agg #[.int .i64 (wHi r456), .int .u64 (wLo r456)], .bool false]) (by kernel_rfl) (S_val (.agg #[.int .i64 (wHi r456), .int .u64 (wLo r456)]) (by kernel_rfl) (S_val (.bool false) (by kernel_rfl) (S_fresh none #[.int .i64 0, .int .u64 0] 24 hM455 (by kernel_rfl) (fun g459 w460 hM461 => S_store 0 0 #[.int .i64 (wHi r456), .int .u64 (wLo r456)] hM461 (by kernel_rfl) (fun w462 hM463 => S_val (.bool false) (by kernel_rfl) (S_nil (R_seq (R_region (S_load 3 0 (.agg #[.int .i64 (wHi r12), .int .u64 (wLo r12)]) hM463 (by kernel_rfl) (S_load 2 0 (.agg #[.int .i64 (wHi r257), .int .u64 (wLo r257)]) hM463 (by kernel_rfl) (?_)))))))))))
          have HR := hr_neg HR Bool.false_ne_true
          refine S_dec ((r12 : Int) = r257) (eqv_W (x := r12) (y := r257) (by kernel_rfl) (by kernel_rfl) (by kernel_rfl)) (fun c464 => ?_) (fun c464 => ?_)
          · refine S_val (.bool true) (by kernel_rfl) (S_val (.bool true) (by kernel_rfl) (S_val (.bool true) (by kernel_rfl) (S_val (.bool true) (by kernel_rfl) (S_val (.bool true) (by kernel_rfl) (S_val (.bool true) (by kernel_rfl) (S_load 1 0 (.agg #[.int .i64 (wHi r372), .int .u64 (wLo r372)]) hM463 (by kernel_rfl) (S_load 0 0 (.agg #[.int .i64 (wHi r456), .int .u64 (wLo r456)]) hM463 (by kernel_rfl) (?_))))))))
            have HR := hr_pos HR c464
            refine S_dec ((r372 : Int) = r456) (eqv_W (x := r372) (y := r456) (by kernel_rfl) (by kernel_rfl) (by kernel_rfl)) (fun c465 => ?_) (fun c465 => ?_)
            · refine S_val (.bool true) (by kernel_rfl) (S_val (.bool true) (by kernel_rfl) (S_val (.bool true) (by kernel_rfl) (S_val (.bool false) (by kernel_rfl) (S_val (.bool false) (by kernel_rfl) (S_val (.bool false) (by kernel_rfl) (S_val (.bool false) (by kernel_rfl) (S_skip (by kernel_rfl) (S_val (.bool false) (by kernel_rfl) (S_val (.bool false) (by kernel_rfl) (S_nil (?_)))))))))))
              have HR := hr_pos HR c465
              refine R_ret hM463 rfl (.cons (.tmp _ (.bool false) (by kernel_rfl)) .nil) rfl ?_
              exact ⟨congrArg Ending.returned HR, hM463.below⟩
            · refine S_val (.bool false) (by kernel_rfl) (S_val (.bool false) (by kernel_rfl) (S_skip (by kernel_rfl) (S_skip (by kernel_rfl) (S_skip (by kernel_rfl) (S_val (.bool false) (by kernel_rfl) (S_val (.bool false) (by kernel_rfl) (S_skip (by kernel_rfl) (S_val (.bool false) (by kernel_rfl) (S_val (.bool false) (by kernel_rfl) (S_nil (?_)))))))))))
              have HR := hr_neg HR c465
              refine R_ret hM463 rfl (.cons (.tmp _ (.bool false) (by kernel_rfl)) .nil) rfl ?_
              exact ⟨congrArg Ending.returned HR, hM463.below⟩
          · refine S_val (.bool false) (by kernel_rfl) (S_skip (by kernel_rfl) (S_skip (by kernel_rfl) (S_skip (by kernel_rfl) (S_val (.bool false) (by kernel_rfl) (S_val (.bool false) (by kernel_rfl) (S_skip (by kernel_rfl) (S_skip (by kernel_rfl) (S_skip (by kernel_rfl) (S_val (.bool false) (by kernel_rfl) (S_val (.bool false) (by kernel_rfl) (S_skip (by kernel_rfl) (?_))))))))))))
            have HR := hr_neg HR c464
            refine S_skip (by kernel_rfl) (S_skip (by kernel_rfl) (S_val (.bool false) (by kernel_rfl) (S_val (.bool false) (by kernel_rfl) (S_skip (by kernel_rfl) (S_val (.bool false) (by kernel_rfl) (S_val (.bool false) (by kernel_rfl) (S_nil (?_))))))))
            refine R_ret hM463 rfl (.cons (.tmp _ (.bool false) (by kernel_rfl)) .nil) rfl ?_
            exact ⟨congrArg Ending.returned HR, hM463.below⟩
        · refine S_val (.tuple #[.agg #[.int .i64 (wHi r456), .int .u64 (wLo r456)], .bool true]) (by kernel_rfl) (S_val (.agg #[.int .i64 (wHi r456), .int .u64 (wLo r456)]) (by kernel_rfl) (S_val (.bool true) (by kernel_rfl) (S_fresh none #[.int .i64 0, .int .u64 0] 24 hM455 (by kernel_rfl) (fun g466 w467 hM468 => S_store 0 0 #[.int .i64 (wHi r456), .int .u64 (wLo r456)] hM468 (by kernel_rfl) (fun w469 hM470 => S_val (.bool true) (by kernel_rfl) (S_nil (R_seq (R_region (S_load 3 0 (.agg #[.int .i64 (wHi r12), .int .u64 (wLo r12)]) hM470 (by kernel_rfl) (S_load 2 0 (.agg #[.int .i64 (wHi r257), .int .u64 (wLo r257)]) hM470 (by kernel_rfl) (?_)))))))))))
          have HR := hr_pos HR rfl
          refine S_dec ((r12 : Int) = r257) (eqv_W (x := r12) (y := r257) (by kernel_rfl) (by kernel_rfl) (by kernel_rfl)) (fun c471 => ?_) (fun c471 => ?_)
          · refine S_val (.bool true) (by kernel_rfl) (S_val (.bool true) (by kernel_rfl) (S_val (.bool true) (by kernel_rfl) (S_val (.bool true) (by kernel_rfl) (S_val (.bool true) (by kernel_rfl) (S_val (.bool true) (by kernel_rfl) (S_load 1 0 (.agg #[.int .i64 (wHi r372), .int .u64 (wLo r372)]) hM470 (by kernel_rfl) (S_load 0 0 (.agg #[.int .i64 (wHi r456), .int .u64 (wLo r456)]) hM470 (by kernel_rfl) (?_))))))))
            have HR := hr_pos HR c471
            refine S_dec ((r372 : Int) = r456) (eqv_W (x := r372) (y := r456) (by kernel_rfl) (by kernel_rfl) (by kernel_rfl)) (fun c472 => ?_) (fun c472 => ?_)
            · refine S_val (.bool true) (by kernel_rfl) (S_val (.bool true) (by kernel_rfl) (S_val (.bool true) (by kernel_rfl) (S_val (.bool true) (by kernel_rfl) (S_val (.bool true) (by kernel_rfl) (S_val (.bool true) (by kernel_rfl) (S_val (.bool true) (by kernel_rfl) (S_call (works01 ) (fun r : Bool => .bool r) hM470 (c_works01  w469) (by kernel_rfl) (fun r473 h474 w475 hM476 => ?_))))))))
              have HR := hr_pos HR c472
              have HR := hr_lt HR h474
              cases r473
              · refine S_val (.bool false) (by kernel_rfl) (S_val (.bool false) (by kernel_rfl) (S_nil (?_)))
                have HR := hr_neg HR Bool.false_ne_true
                refine R_ret hM476 rfl (.cons (.tmp _ (.bool false) (by kernel_rfl)) .nil) rfl ?_
                exact ⟨congrArg Ending.returned HR, hM476.below⟩
              · refine S_val (.bool true) (by kernel_rfl) (S_val (.bool true) (by kernel_rfl) (S_nil (?_)))
                have HR := hr_pos HR rfl
                refine R_ret hM476 rfl (.cons (.tmp _ (.bool true) (by kernel_rfl)) .nil) rfl ?_
                exact ⟨congrArg Ending.returned HR, hM476.below⟩
            · refine S_val (.bool false) (by kernel_rfl) (S_val (.bool false) (by kernel_rfl) (S_skip (by kernel_rfl) (S_skip (by kernel_rfl) (S_skip (by kernel_rfl) (S_val (.bool false) (by kernel_rfl) (S_val (.bool false) (by kernel_rfl) (S_skip (by kernel_rfl) (S_val (.bool false) (by kernel_rfl) (S_val (.bool false) (by kernel_rfl) (S_nil (?_)))))))))))
              have HR := hr_neg HR c472
              refine R_ret hM470 rfl (.cons (.tmp _ (.bool false) (by kernel_rfl)) .nil) rfl ?_
              exact ⟨congrArg Ending.returned HR, hM470.below⟩
          · refine S_val (.bool false) (by kernel_rfl) (S_skip (by kernel_rfl) (S_skip (by kernel_rfl) (S_skip (by kernel_rfl) (S_val (.bool false) (by kernel_rfl) (S_val (.bool false) (by kernel_rfl) (S_skip (by kernel_rfl) (S_skip (by kernel_rfl) (S_skip (by kernel_rfl) (S_val (.bool false) (by kernel_rfl) (S_val (.bool false) (by kernel_rfl) (S_skip (by kernel_rfl) (?_))))))))))))
            have HR := hr_neg HR c471
            refine S_skip (by kernel_rfl) (S_skip (by kernel_rfl) (S_val (.bool false) (by kernel_rfl) (S_val (.bool false) (by kernel_rfl) (S_skip (by kernel_rfl) (S_val (.bool false) (by kernel_rfl) (S_val (.bool false) (by kernel_rfl) (S_nil (?_))))))))
            refine R_ret hM470 rfl (.cons (.tmp _ (.bool false) (by kernel_rfl)) .nil) rfl ?_
            exact ⟨congrArg Ending.returned HR, hM470.below⟩

end Go.Proofs.Ytlpnklcnheafoaa
