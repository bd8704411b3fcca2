/- Layer 1: WideBack. -/
import Derived.Test.YtlpnklcnheafoaaGoW
import Derived.Test.YtlpnklcnheafoaaGoA
import Derived.Test.YtlpnklcnheafoaaWalkI
import Derived.Test.YtlpnklcnheafoaaWalkN
import Derived.Test.YtlpnklcnheafoaaWalkK
import Derived.Test.YtlpnklcnheafoaaGoK
import Derived.Test.YtlpnklcnheafoaaLaw1
import Derived.Test.YtlpnklcnheafoaaGoF
namespace Go.Proofs.Ytlpnklcnheafoaa
open Go.RowKit Go.Sort
set_option linter.unusedVariables false
set_option linter.unusedSimpArgs false

def wof (n : Int) : Int := n
theorem wof_W {n : Int} (h : InI n) : InW (wof n) := by unfold wof InW InI at *; omega
theorem wide_of {hi lo : Int} (h1 : Fits .i64 hi) (h2 : Fits .u64 lo) : ∃ x, hi = wHi x ∧ lo = wLo x ∧ InW x := by
  have a := fit_i64 h1
  have b := fit_u64 h2
  unfold InI at a
  unfold InU at b
  refine ⟨hi * 18446744073709551616 + lo, ?_, ?_, ?_⟩
  · unfold wHi; omega
  · unfold wLo; omega
  · unfold InW; omega

theorem c_wide_Of (a : Int) (ha : InI a) (w : World) : Calls Try.prog 21 #[.int .i64 a] w (Ret (.agg #[.int .i64 (wHi (wof a)), .int .u64 (wLo (wof a))]) w) := wOf a ha w

def wneg2 (x : Int) : Int × Bool := (negN x, negOk x)
theorem wneg2_W {x : Int} (h : InW x) : InW (wneg2 x).1 ∧ True := ⟨negN_in h, trivial⟩

theorem c_wide_Neg (a : Int) (ha : InW a) (w : World) : Calls Try.prog 33 #[.agg #[.int .i64 (wHi a), .int .u64 (wLo a)]] w (Ret (.tuple #[.agg #[.int .i64 (wHi ((wneg2 a).1)), .int .u64 (wLo ((wneg2 a).1))], .bool ((wneg2 a).2)]) w) := wNeg a ha w

def wdivT (a d : Int) : Int × Int × Bool := (divQ a d, divR a d, divOk a d)
theorem divR_in (a : Int) {d : Int} (hd : InI d) : InI (divR a d) := by
  unfold divR
  by_cases h : divOk a d
  · rw [if_pos h]
    have h0 : d ≠ 0 := by unfold divOk at h; simp only [Bool.and_eq_true, decide_eq_true_eq] at h; exact h.1
    unfold fr InI at *
    split
    · rename_i hp
      have h1 := Int.emod_nonneg a h0
      have h2 := Int.emod_lt_of_pos a hp
      omega
    · have h1 := Int.emod_nonneg (-a) (show -d ≠ 0 by omega)
      have h2 := Int.emod_lt_of_pos (-a) (show 0 < -d by omega)
      omega
  · rw [if_neg h]; unfold InI; omega
theorem wdivT_W {a d : Int} (h : InW a) (hd : InI d) : InW (wdivT a d).1 ∧ InI (wdivT a d).2.1 ∧ True := ⟨divQ_in a d, divR_in a hd, trivial⟩

theorem c_wide_Div (a : Int) (b : Int) (ha : InW a) (hb : InI b) (w : World) : Calls Try.prog 25 #[.agg #[.int .i64 (wHi a), .int .u64 (wLo a)], .int .i64 b] w (Ret (.tuple #[.agg #[.int .i64 (wHi ((wdivT a b).1)), .int .u64 (wLo ((wdivT a b).1))], .int .i64 ((wdivT a b).2.1), .bool ((wdivT a b).2.2)]) w) := wDiv a b ha hb w

def works01 : Bool := true
theorem c_works01 (w : World) : Calls Try.prog 16 #[] w (Ret (.bool (works01)) w) := works1 w

def e_umbralaw01_WideBack (r : Bool) : Value := .bool r
def s_umbralaw01_WideBack (a : Int) (b : Int) (c : Int) : Bool :=
  if b = 0 then
    lt (wof a) fun r156 =>
    lt (addW [c, r156]) fun r162 =>
    if r162.2 = true then
      lt (wof a) fun r210 =>
      lt (wneg2 r210) fun r214 =>
      if r214.2 = true then
        lt (addW [r162.1, r214.1]) fun r234 =>
        if r234.2 = true then
          if (r234.1 : Int) = c then
            lt (works01 ) fun r252 =>
            if r252 = true then
              true
            else
              false
          else
            false
        else
          false
      else
        false
    else
      lt (wof a) fun r175 =>
      lt (wneg2 r175) fun r179 =>
      if r179.2 = true then
        lt (works01 ) fun r196 =>
        if r196 = true then
          true
        else
          false
      else
        false
  else
    lt (a * b) fun r5 =>
    lt (wdivT r5 b) fun r9 =>
    if r9.2.2 = true then
      if r9.2.1 = 0 then
        lt (wof a) fun r38 =>
        if (r9.1 : Int) = r38 then
          lt (wof a) fun r48 =>
          lt (addW [c, r48]) fun r54 =>
          if r54.2 = true then
            lt (wof a) fun r102 =>
            lt (wneg2 r102) fun r106 =>
            if r106.2 = true then
              lt (addW [r54.1, r106.1]) fun r126 =>
              if r126.2 = true then
                if (r126.1 : Int) = c then
                  lt (works01 ) fun r144 =>
                  if r144 = true then
                    true
                  else
                    false
                else
                  false
              else
                false
            else
              false
          else
            lt (wof a) fun r67 =>
            lt (wneg2 r67) fun r71 =>
            if r71.2 = true then
              lt (works01 ) fun r88 =>
              if r88 = true then
                true
              else
                false
            else
              false
        else
          false
      else
        false
    else
      false
set_option maxRecDepth 100000 in
set_option maxHeartbeats 4000000 in
theorem w_umbralaw01_WideBack (a : Int) (b : Int) (c : Int) (h_a : InI a) (h_b : InI b) (h_c : InW c) (w : World) : Calls Try.prog 10 #[.int .i64 a, .int .i64 b, .agg #[.int .i64 (wHi c), .int .u64 (wLo c)]] w (Ret (e_umbralaw01_WideBack (s_umbralaw01_WideBack a b c)) w) := by
  obtain ⟨R, HR⟩ : ∃ R, e_umbralaw01_WideBack (s_umbralaw01_WideBack a b c) = R := ⟨_, rfl⟩
  rw [HR]
  unfold s_umbralaw01_WideBack at HR
  have hM0 := St.start w
  refine calls_run Try.func10 rfl ?_
  refine R_seq (R_region (S_fresh none #[.int .i64 (wHi c), .int .u64 (wLo c)] 24 hM0 (by kernel_rfl) (fun g1 w2 hM3 => S_val (.bool false) (by kernel_rfl) (S_nil (R_seq (R_seq (R_region (S_val (.int .i64 b) (by kernel_rfl) (?_)))))))))
  refine S_decn (b = 0) (by kernel_rfl) (fun c4 => ?_) (fun c4 => ?_)
  · refine S_nil (R_yes (by kernel_rfl) (R_seq (R_region (S_val (.int .i64 a) (by kernel_rfl) (S_val (.int .i64 b) (by kernel_rfl) (S_call (a * b) (fun r : Int => .agg #[.int .i64 (wHi r), .int .u64 (wLo r)]) hM3 (wMul a b h_a h_b w2) (by kernel_rfl) (fun r5 h6 w7 hM8 => S_val (.int .i64 b) (by kernel_rfl) (S_call (wdivT r5 b) (fun r : Int × Int × Bool => .tuple #[.agg #[.int .i64 (wHi r.1), .int .u64 (wLo r.1)], .int .i64 r.2.1, .bool r.2.2]) hM8 (c_wide_Div r5 b ((tr (P := fun r : Int => InW r) h6 (mul_InW h_a h_b)).out) h_b w7) (by kernel_rfl) (fun r9 h10 w11 hM12 => ?_)))))))))
    have HR := hr_neg HR c4
    have HR := hr_lt HR h6
    have HR := hr_lt HR h10
    obtain ⟨r13, r14, b16⟩ := r9
    cases b16
    · refine S_val (.tuple #[.agg #[.int .i64 (wHi r13), .int .u64 (wLo r13)], .int .i64 r14, .bool false]) (by kernel_rfl) (S_val (.agg #[.int .i64 (wHi r13), .int .u64 (wLo r13)]) (by kernel_rfl) (S_val (.int .i64 r14) (by kernel_rfl) (S_val (.bool false) (by kernel_rfl) (S_fresh none #[.int .i64 0, .int .u64 0] 24 hM12 (by kernel_rfl) (fun g17 w18 hM19 => S_store 0 0 #[.int .i64 (wHi r13), .int .u64 (wLo r13)] hM19 (by kernel_rfl) (fun w20 hM21 => S_val (.int .i64 r14) (by kernel_rfl) (S_val (.bool false) (by kernel_rfl) (S_nil (R_seq (R_drawF 12 (by kernel_rfl) (fun F22 U23 hL24 => F_val (.bool false) (fun _ => by kernel_rfl) (?_))))))))))))
      have HR := hr_neg HR Bool.false_ne_true
      refine F_val (.bool true) (fun _ => by kernel_rfl) (F_val (.bool true) (fun _ => by kernel_rfl) (F_skip (by kernel_rfl) (F_skip (by kernel_rfl) (F_val (.bool true) (fun _ => by kernel_rfl) (F_val (.bool true) (fun _ => by kernel_rfl) (F_skip (by kernel_rfl) (F_skip (by kernel_rfl) (F_skip (by kernel_rfl) (F_skip (by kernel_rfl) (F_val (.bool true) (fun _ => by kernel_rfl) (F_nil hM21 hL24 (fun w25 hM26 => ?_))))))))))))
      refine S_nil (R_yes (by kernel_rfl) (R_seq (R_region (S_val (.bool false) (by kernel_rfl) (S_nil (?_))))))
      refine R_ret hM26 rfl (.cons (.tmp _ (.bool false) (by kernel_rfl)) .nil) rfl ?_
      exact ⟨congrArg Ending.returned HR, hM26.below⟩
    · refine S_val (.tuple #[.agg #[.int .i64 (wHi r13), .int .u64 (wLo r13)], .int .i64 r14, .bool true]) (by kernel_rfl) (S_val (.agg #[.int .i64 (wHi r13), .int .u64 (wLo r13)]) (by kernel_rfl) (S_val (.int .i64 r14) (by kernel_rfl) (S_val (.bool true) (by kernel_rfl) (S_fresh none #[.int .i64 0, .int .u64 0] 24 hM12 (by kernel_rfl) (fun g27 w28 hM29 => S_store 0 0 #[.int .i64 (wHi r13), .int .u64 (wLo r13)] hM29 (by kernel_rfl) (fun w30 hM31 => S_val (.int .i64 r14) (by kernel_rfl) (S_val (.bool true) (by kernel_rfl) (S_nil (R_seq (R_drawF 12 (by kernel_rfl) (fun F32 U33 hL34 => F_val (.bool true) (fun _ => by kernel_rfl) (?_))))))))))))
      have HR := hr_pos HR rfl
      refine F_val (.bool false) (fun _ => by kernel_rfl) (F_val (.bool false) (fun _ => by kernel_rfl) (F_val (.int .i64 r14) (fun _ => by kernel_rfl) (?_)))
      refine F_decn (r14 = 0) (fun _ => by kernel_rfl) (fun c35 => ?_) (fun c35 => ?_)
      · refine F_val (.bool true) (fun _ => by kernel_rfl) (F_val (.bool true) (fun _ => by kernel_rfl) (F_skip (by kernel_rfl) (F_skip (by kernel_rfl) (F_skip (by kernel_rfl) (F_skip (by kernel_rfl) (F_val (.bool true) (fun _ => by kernel_rfl) (F_nil hM31 hL34 (fun w36 hM37 => S_nil (R_yes (by kernel_rfl) (R_seq (R_region (?_))))))))))))
        have HR := hr_neg HR c35
        refine S_val (.bool false) (by kernel_rfl) (S_nil (?_))
        refine R_ret hM37 rfl (.cons (.tmp _ (.bool false) (by kernel_rfl)) .nil) rfl ?_
        exact ⟨congrArg Ending.returned HR, hM37.below⟩
      · refine F_val (.bool false) (fun _ => by kernel_rfl) (F_val (.bool false) (fun _ => by kernel_rfl) (F_load 0 0 (.agg #[.int .i64 (wHi r13), .int .u64 (wLo r13)]) hM31 (by kernel_rfl) (F_val (.int .i64 a) (fun _ => by kernel_rfl) (F_call (wof a) (fun r : Int => .agg #[.int .i64 (wHi r), .int .u64 (wLo r)]) hM31 hL34 (fun w' hM' => c_wide_Of a h_a w') (by kernel_rfl) (fun _ => by kernel_rfl) (fun r38 h39 => ?_)))))
        have HR := hr_pos HR c35
        have HR := hr_lt HR h39
        refine F_decn ((r13 : Int) = r38) (fun _ => eqv_Wn (x := r13) (y := r38) (by kernel_rfl) (by kernel_rfl) (by kernel_rfl)) (fun c40 => ?_) (fun c40 => ?_)
        · refine F_val (.bool true) (fun _ => by kernel_rfl) (F_nil hM31 hL34 (fun w41 hM42 => S_nil (R_yes (by kernel_rfl) (R_seq (R_region (S_val (.bool false) (by kernel_rfl) (S_nil (?_))))))))
          have HR := hr_neg HR c40
          refine R_ret hM42 rfl (.cons (.tmp _ (.bool false) (by kernel_rfl)) .nil) rfl ?_
          exact ⟨congrArg Ending.returned HR, hM42.below⟩
        · refine F_val (.bool false) (fun _ => by kernel_rfl) (F_nil hM31 hL34 (fun w43 hM44 => S_nil (R_no (by kernel_rfl) (R_skip (R_seq (R_drawG 11 (by kernel_rfl) (fun F45 U46 hL47 => G_load 1 0 (.agg #[.int .i64 (wHi c), .int .u64 (wLo c)]) hM44 (by kernel_rfl) (G_val (.int .i64 a) (fun _ => by kernel_rfl) (G_call (wof a) (fun r : Int => .agg #[.int .i64 (wHi r), .int .u64 (wLo r)]) hM44 hL47 (fun w' hM' => c_wide_Of a h_a w') (by kernel_rfl) (fun _ => by kernel_rfl) (fun r48 h49 => G_fresh (some 2) #[.int .i64 (wHi c), .int .u64 (wLo c), .int .i64 (wHi r48), .int .u64 (wLo r48)] 24 hL47 (by kernel_rfl) (fun _ => by kernel_rfl) (fun g50 F51 U52 hL53 => G_call (addW [c, r48]) (fun r : Int × Bool => .tuple #[.agg #[.int .i64 (wHi r.1), .int .u64 (wLo r.1)], .bool r.2]) hM44 hL53 (fun w' hM' => wAddL [c, r48] ⟨h_c, (tr (P := fun r : Int => InW r) h49 (wof_W h_a)).out, trivial⟩ hM' 0 2 2 rfl (by kernel_rfl) (by kernel_rfl)) (by kernel_rfl) (fun _ => by kernel_rfl) (fun r54 h55 => ?_))))))))))))
          have HR := hr_pos HR c40
          have HR := hr_lt HR h49
          have HR := hr_lt HR h55
          obtain ⟨r56, b58⟩ := r54
          cases b58
          · refine G_val (.tuple #[.agg #[.int .i64 (wHi r56), .int .u64 (wLo r56)], .bool false]) (fun _ => by kernel_rfl) (G_val (.agg #[.int .i64 (wHi r56), .int .u64 (wLo r56)]) (fun _ => by kernel_rfl) (G_val (.bool false) (fun _ => by kernel_rfl) (G_fresh none #[.int .i64 0, .int .u64 0] 24 hL53 (by kernel_rfl) (fun _ => by kernel_rfl) (fun g59 F60 U61 hL62 => G_store 0 0 #[.int .i64 (wHi r56), .int .u64 (wLo r56)] hL62 (by kernel_rfl) (by kernel_rfl) (fun F63 hL64 => G_val (.bool false) (fun _ => by kernel_rfl) (G_nil hM44 hL64 (fun w65 hM66 => S_nil (R_seq (R_region (S_val (.int .i64 a) (by kernel_rfl) (S_call (wof a) (fun r : Int => .agg #[.int .i64 (wHi r), .int .u64 (wLo r)]) hM66 (c_wide_Of a h_a w65) (by kernel_rfl) (fun r67 h68 w69 hM70 => ?_))))))))))))
            have HR := hr_neg HR Bool.false_ne_true
            have HR := hr_lt HR h68
            refine S_call (wneg2 r67) (fun r : Int × Bool => .tuple #[.agg #[.int .i64 (wHi r.1), .int .u64 (wLo r.1)], .bool r.2]) hM70 (c_wide_Neg r67 ((tr (P := fun r : Int => InW r) h68 (wof_W h_a)).out) w69) (by kernel_rfl) (fun r71 h72 w73 hM74 => ?_)
            have HR := hr_lt HR h72
            obtain ⟨r75, b77⟩ := r71
            cases b77
            · refine S_val (.tuple #[.agg #[.int .i64 (wHi r75), .int .u64 (wLo r75)], .bool false]) (by kernel_rfl) (S_val (.agg #[.int .i64 (wHi r75), .int .u64 (wLo r75)]) (by kernel_rfl) (S_val (.bool false) (by kernel_rfl) (S_fresh none #[.int .i64 0, .int .u64 0] 24 hM74 (by kernel_rfl) (fun g78 w79 hM80 => S_store 0 0 #[.int .i64 (wHi r75), .int .u64 (wLo r75)] hM80 (by kernel_rfl) (fun w81 hM82 => S_val (.bool false) (by kernel_rfl) (S_nil (R_seq (R_seq (R_region (S_val (.bool false) (by kernel_rfl) (S_val (.bool true) (by kernel_rfl) (?_))))))))))))
              have HR := hr_neg HR Bool.false_ne_true
              refine S_nil (R_yes (by kernel_rfl) (R_seq (R_region (S_val (.bool false) (by kernel_rfl) (S_nil (?_))))))
              refine R_ret hM82 rfl (.cons (.tmp _ (.bool false) (by kernel_rfl)) .nil) rfl ?_
              exact ⟨congrArg Ending.returned HR, hM82.below⟩
            · refine S_val (.tuple #[.agg #[.int .i64 (wHi r75), .int .u64 (wLo r75)], .bool true]) (by kernel_rfl) (S_val (.agg #[.int .i64 (wHi r75), .int .u64 (wLo r75)]) (by kernel_rfl) (S_val (.bool true) (by kernel_rfl) (S_fresh none #[.int .i64 0, .int .u64 0] 24 hM74 (by kernel_rfl) (fun g83 w84 hM85 => S_store 0 0 #[.int .i64 (wHi r75), .int .u64 (wLo r75)] hM85 (by kernel_rfl) (fun w86 hM87 => S_val (.bool true) (by kernel_rfl) (S_nil (R_seq (R_seq (R_region (S_val (.bool true) (by kernel_rfl) (S_val (.bool false) (by kernel_rfl) (?_))))))))))))
              have HR := hr_pos HR rfl
              refine S_nil (R_no (by kernel_rfl) (R_skip (R_seq (R_seq (R_region (S_val (.bool false) (by kernel_rfl) (S_nil (R_no (by kernel_rfl) (R_skip (R_seq (R_region (?_))))))))))))
              refine S_call (works01 ) (fun r : Bool => .bool r) hM87 (c_works01  w86) (by kernel_rfl) (fun r88 h89 w90 hM91 => ?_)
              have HR := hr_lt HR h89
              cases r88
              · refine S_val (.bool false) (by kernel_rfl) (S_nil (?_))
                have HR := hr_neg HR Bool.false_ne_true
                refine R_ret hM91 rfl (.cons (.tmp _ (.bool false) (by kernel_rfl)) .nil) rfl ?_
                exact ⟨congrArg Ending.returned HR, hM91.below⟩
              · refine S_val (.bool true) (by kernel_rfl) (S_nil (?_))
                have HR := hr_pos HR rfl
                refine R_ret hM91 rfl (.cons (.tmp _ (.bool true) (by kernel_rfl)) .nil) rfl ?_
                exact ⟨congrArg Ending.returned HR, hM91.below⟩
          · refine G_val (.tuple #[.agg #[.int .i64 (wHi r56), .int .u64 (wLo r56)], .bool true]) (fun _ => by kernel_rfl) (G_val (.agg #[.int .i64 (wHi r56), .int .u64 (wLo r56)]) (fun _ => by kernel_rfl) (G_val (.bool true) (fun _ => by kernel_rfl) (G_fresh none #[.int .i64 0, .int .u64 0] 24 hL53 (by kernel_rfl) (fun _ => by kernel_rfl) (fun g94 F95 U96 hL97 => G_store 0 0 #[.int .i64 (wHi r56), .int .u64 (wLo r56)] hL97 (by kernel_rfl) (by kernel_rfl) (fun F98 hL99 => G_val (.bool true) (fun _ => by kernel_rfl) (G_nil hM44 hL99 (fun w100 hM101 => S_nil (R_seq (R_region (S_val (.int .i64 a) (by kernel_rfl) (S_call (wof a) (fun r : Int => .agg #[.int .i64 (wHi r), .int .u64 (wLo r)]) hM101 (c_wide_Of a h_a w100) (by kernel_rfl) (fun r102 h103 w104 hM105 => ?_))))))))))))
            have HR := hr_pos HR rfl
            have HR := hr_lt HR h103
            refine S_call (wneg2 r102) (fun r : Int × Bool => .tuple #[.agg #[.int .i64 (wHi r.1), .int .u64 (wLo r.1)], .bool r.2]) hM105 (c_wide_Neg r102 ((tr (P := fun r : Int => InW r) h103 (wof_W h_a)).out) w104) (by kernel_rfl) (fun r106 h107 w108 hM109 => ?_)
            have HR := hr_lt HR h107
            obtain ⟨r110, b112⟩ := r106
            cases b112
            · refine S_val (.tuple #[.agg #[.int .i64 (wHi r110), .int .u64 (wLo r110)], .bool false]) (by kernel_rfl) (S_val (.agg #[.int .i64 (wHi r110), .int .u64 (wLo r110)]) (by kernel_rfl) (S_val (.bool false) (by kernel_rfl) (S_fresh none #[.int .i64 0, .int .u64 0] 24 hM109 (by kernel_rfl) (fun g113 w114 hM115 => S_store 0 0 #[.int .i64 (wHi r110), .int .u64 (wLo r110)] hM115 (by kernel_rfl) (fun w116 hM117 => S_val (.bool false) (by kernel_rfl) (S_nil (R_seq (R_seq (R_region (S_val (.bool false) (by kernel_rfl) (S_val (.bool true) (by kernel_rfl) (?_))))))))))))
              have HR := hr_neg HR Bool.false_ne_true
              refine S_nil (R_yes (by kernel_rfl) (R_seq (R_region (S_val (.bool false) (by kernel_rfl) (S_nil (?_))))))
              refine R_ret hM117 rfl (.cons (.tmp _ (.bool false) (by kernel_rfl)) .nil) rfl ?_
              exact ⟨congrArg Ending.returned HR, hM117.below⟩
            · refine S_val (.tuple #[.agg #[.int .i64 (wHi r110), .int .u64 (wLo r110)], .bool true]) (by kernel_rfl) (S_val (.agg #[.int .i64 (wHi r110), .int .u64 (wLo r110)]) (by kernel_rfl) (S_val (.bool true) (by kernel_rfl) (S_fresh none #[.int .i64 0, .int .u64 0] 24 hM109 (by kernel_rfl) (fun g118 w119 hM120 => S_store 0 0 #[.int .i64 (wHi r110), .int .u64 (wLo r110)] hM120 (by kernel_rfl) (fun w121 hM122 => S_val (.bool true) (by kernel_rfl) (S_nil (R_seq (R_seq (R_region (S_val (.bool true) (by kernel_rfl) (S_val (.bool false) (by kernel_rfl) (?_))))))))))))
              have HR := hr_pos HR rfl
              refine S_nil (R_no (by kernel_rfl) (R_skip (R_seq (R_seq (R_region (S_val (.bool true) (by kernel_rfl) (S_nil (R_yes (by kernel_rfl) (R_seq (R_region (S_load 1 0 (.agg #[.int .i64 (wHi r56), .int .u64 (wLo r56)]) hM122 (by kernel_rfl) (?_))))))))))))
              refine S_load 0 0 (.agg #[.int .i64 (wHi r110), .int .u64 (wLo r110)]) hM122 (by kernel_rfl) (S_fresh (some 2) #[.int .i64 (wHi r56), .int .u64 (wLo r56), .int .i64 (wHi r110), .int .u64 (wLo r110)] 24 hM122 (by kernel_rfl) (fun g123 w124 hM125 => S_call (addW [r56, r110]) (fun r : Int × Bool => .tuple #[.agg #[.int .i64 (wHi r.1), .int .u64 (wLo r.1)], .bool r.2]) hM125 (wAddL [r56, r110] ⟨(tr (P := fun r : Int × Bool => (InW r.1 ∧ True)) h55 (addW_W [c, r48])).out.1, (tr (P := fun r : Int × Bool => (InW r.1 ∧ True)) h107 (wneg2_W ((tr (P := fun r : Int => InW r) h103 (wof_W h_a)).out))).out.1, trivial⟩ hM125 0 2 2 rfl (by kernel_rfl) (by kernel_rfl)) (by kernel_rfl) (fun r126 h127 w128 hM129 => ?_)))
              have HR := hr_lt HR h127
              obtain ⟨r130, b132⟩ := r126
              cases b132
              · refine S_val (.tuple #[.agg #[.int .i64 (wHi r130), .int .u64 (wLo r130)], .bool false]) (by kernel_rfl) (S_val (.agg #[.int .i64 (wHi r130), .int .u64 (wLo r130)]) (by kernel_rfl) (S_val (.bool false) (by kernel_rfl) (S_fresh none #[.int .i64 0, .int .u64 0] 24 hM129 (by kernel_rfl) (fun g133 w134 hM135 => S_store 0 0 #[.int .i64 (wHi r130), .int .u64 (wLo r130)] hM135 (by kernel_rfl) (fun w136 hM137 => S_val (.bool false) (by kernel_rfl) (S_nil (R_seq (R_region (S_val (.bool false) (by kernel_rfl) (S_val (.bool true) (by kernel_rfl) (S_val (.bool true) (by kernel_rfl) (?_))))))))))))
                have HR := hr_neg HR Bool.false_ne_true
                refine S_skip (by kernel_rfl) (S_skip (by kernel_rfl) (S_skip (by kernel_rfl) (S_val (.bool true) (by kernel_rfl) (S_nil (R_yes (by kernel_rfl) (R_seq (R_region (S_val (.bool false) (by kernel_rfl) (S_nil (?_))))))))))
                refine R_ret hM137 rfl (.cons (.tmp _ (.bool false) (by kernel_rfl)) .nil) rfl ?_
                exact ⟨congrArg Ending.returned HR, hM137.below⟩
              · refine S_val (.tuple #[.agg #[.int .i64 (wHi r130), .int .u64 (wLo r130)], .bool true]) (by kernel_rfl) (S_val (.agg #[.int .i64 (wHi r130), .int .u64 (wLo r130)]) (by kernel_rfl) (S_val (.bool true) (by kernel_rfl) (S_fresh none #[.int .i64 0, .int .u64 0] 24 hM129 (by kernel_rfl) (fun g138 w139 hM140 => S_store 0 0 #[.int .i64 (wHi r130), .int .u64 (wLo r130)] hM140 (by kernel_rfl) (fun w141 hM142 => S_val (.bool true) (by kernel_rfl) (S_nil (R_seq (R_region (S_val (.bool true) (by kernel_rfl) (S_val (.bool false) (by kernel_rfl) (S_val (.bool false) (by kernel_rfl) (?_))))))))))))
                have HR := hr_pos HR rfl
                refine S_load 0 0 (.agg #[.int .i64 (wHi r130), .int .u64 (wLo r130)]) hM142 (by kernel_rfl) (S_load 6 0 (.agg #[.int .i64 (wHi c), .int .u64 (wLo c)]) hM142 (by kernel_rfl) (?_))
                refine S_decn ((r130 : Int) = c) (eqv_Wn (x := r130) (y := c) (by kernel_rfl) (by kernel_rfl) (by kernel_rfl)) (fun c143 => ?_) (fun c143 => ?_)
                · refine S_val (.bool true) (by kernel_rfl) (S_nil (R_yes (by kernel_rfl) (R_seq (R_region (S_val (.bool false) (by kernel_rfl) (S_nil (?_)))))))
                  have HR := hr_neg HR c143
                  refine R_ret hM142 rfl (.cons (.tmp _ (.bool false) (by kernel_rfl)) .nil) rfl ?_
                  exact ⟨congrArg Ending.returned HR, hM142.below⟩
                · refine S_val (.bool false) (by kernel_rfl) (S_nil (R_no (by kernel_rfl) (R_skip (R_seq (R_region (S_call (works01 ) (fun r : Bool => .bool r) hM142 (c_works01  w141) (by kernel_rfl) (fun r144 h145 w146 hM147 => ?_)))))))
                  have HR := hr_pos HR c143
                  have HR := hr_lt HR h145
                  cases r144
                  · refine S_val (.bool false) (by kernel_rfl) (S_nil (?_))
                    have HR := hr_neg HR Bool.false_ne_true
                    refine R_ret hM147 rfl (.cons (.tmp _ (.bool false) (by kernel_rfl)) .nil) rfl ?_
                    exact ⟨congrArg Ending.returned HR, hM147.below⟩
                  · refine S_val (.bool true) (by kernel_rfl) (S_nil (?_))
                    have HR := hr_pos HR rfl
                    refine R_ret hM147 rfl (.cons (.tmp _ (.bool true) (by kernel_rfl)) .nil) rfl ?_
                    exact ⟨congrArg Ending.returned HR, hM147.below⟩
  · refine S_nil (R_no (by kernel_rfl) (R_skip (R_seq (R_drawG 11 (by kernel_rfl) (fun F153 U154 hL155 => G_load 0 0 (.agg #[.int .i64 (wHi c), .int .u64 (wLo c)]) hM3 (by kernel_rfl) (G_val (.int .i64 a) (fun _ => by kernel_rfl) (G_call (wof a) (fun r : Int => .agg #[.int .i64 (wHi r), .int .u64 (wLo r)]) hM3 hL155 (fun w' hM' => c_wide_Of a h_a w') (by kernel_rfl) (fun _ => by kernel_rfl) (fun r156 h157 => G_fresh (some 2) #[.int .i64 (wHi c), .int .u64 (wLo c), .int .i64 (wHi r156), .int .u64 (wLo r156)] 24 hL155 (by kernel_rfl) (fun _ => by kernel_rfl) (fun g158 F159 U160 hL161 => G_call (addW [c, r156]) (fun r : Int × Bool => .tuple #[.agg #[.int .i64 (wHi r.1), .int .u64 (wLo r.1)], .bool r.2]) hM3 hL161 (fun w' hM' => wAddL [c, r156] ⟨h_c, (tr (P := fun r : Int => InW r) h157 (wof_W h_a)).out, trivial⟩ hM' 0 2 2 rfl (by kernel_rfl) (by kernel_rfl)) (by kernel_rfl) (fun _ => by kernel_rfl) (fun r162 h163 => ?_))))))))))
    have HR := hr_pos HR c4
    have HR := hr_lt HR h157
    have HR := hr_lt HR h163
    obtain ⟨r164, b166⟩ := r162
    cases b166
    · refine G_val (.tuple #[.agg #[.int .i64 (wHi r164), .int .u64 (wLo r164)], .bool false]) (fun _ => by kernel_rfl) (G_val (.agg #[.int .i64 (wHi r164), .int .u64 (wLo r164)]) (fun _ => by kernel_rfl) (G_val (.bool false) (fun _ => by kernel_rfl) (G_fresh none #[.int .i64 0, .int .u64 0] 24 hL161 (by kernel_rfl) (fun _ => by kernel_rfl) (fun g167 F168 U169 hL170 => G_store 0 0 #[.int .i64 (wHi r164), .int .u64 (wLo r164)] hL170 (by kernel_rfl) (by kernel_rfl) (fun F171 hL172 => G_val (.bool false) (fun _ => by kernel_rfl) (G_nil hM3 hL172 (fun w173 hM174 => S_nil (R_seq (R_region (S_val (.int .i64 a) (by kernel_rfl) (S_call (wof a) (fun r : Int => .agg #[.int .i64 (wHi r), .int .u64 (wLo r)]) hM174 (c_wide_Of a h_a w173) (by kernel_rfl) (fun r175 h176 w177 hM178 => ?_))))))))))))
      have HR := hr_neg HR Bool.false_ne_true
      have HR := hr_lt HR h176
      refine S_call (wneg2 r175) (fun r : Int × Bool => .tuple #[.agg #[.int .i64 (wHi r.1), .int .u64 (wLo r.1)], .bool r.2]) hM178 (c_wide_Neg r175 ((tr (P := fun r : Int => InW r) h176 (wof_W h_a)).out) w177) (by kernel_rfl) (fun r179 h180 w181 hM182 => ?_)
      have HR := hr_lt HR h180
      obtain ⟨r183, b185⟩ := r179
      cases b185
      · refine S_val (.tuple #[.agg #[.int .i64 (wHi r183), .int .u64 (wLo r183)], .bool false]) (by kernel_rfl) (S_val (.agg #[.int .i64 (wHi r183), .int .u64 (wLo r183)]) (by kernel_rfl) (S_val (.bool false) (by kernel_rfl) (S_fresh none #[.int .i64 0, .int .u64 0] 24 hM182 (by kernel_rfl) (fun g186 w187 hM188 => S_store 0 0 #[.int .i64 (wHi r183), .int .u64 (wLo r183)] hM188 (by kernel_rfl) (fun w189 hM190 => S_val (.bool false) (by kernel_rfl) (S_nil (R_seq (R_seq (R_region (S_val (.bool false) (by kernel_rfl) (S_val (.bool true) (by kernel_rfl) (?_))))))))))))
        have HR := hr_neg HR Bool.false_ne_true
        refine S_nil (R_yes (by kernel_rfl) (R_seq (R_region (S_val (.bool false) (by kernel_rfl) (S_nil (?_))))))
        refine R_ret hM190 rfl (.cons (.tmp _ (.bool false) (by kernel_rfl)) .nil) rfl ?_
        exact ⟨congrArg Ending.returned HR, hM190.below⟩
      · refine S_val (.tuple #[.agg #[.int .i64 (wHi r183), .int .u64 (wLo r183)], .bool true]) (by kernel_rfl) (S_val (.agg #[.int .i64 (wHi r183), .int .u64 (wLo r183)]) (by kernel_rfl) (S_val (.bool true) (by kernel_rfl) (S_fresh none #[.int .i64 0, .int .u64 0] 24 hM182 (by kernel_rfl) (fun g191 w192 hM193 => S_store 0 0 #[.int .i64 (wHi r183), .int .u64 (wLo r183)] hM193 (by kernel_rfl) (fun w194 hM195 => S_val (.bool true) (by kernel_rfl) (S_nil (R_seq (R_seq (R_region (S_val (.bool true) (by kernel_rfl) (S_val (.bool false) (by kernel_rfl) (?_))))))))))))
        have HR := hr_pos HR rfl
        refine S_nil (R_no (by kernel_rfl) (R_skip (R_seq (R_seq (R_region (S_val (.bool false) (by kernel_rfl) (S_nil (R_no (by kernel_rfl) (R_skip (R_seq (R_region (?_))))))))))))
        refine S_call (works01 ) (fun r : Bool => .bool r) hM195 (c_works01  w194) (by kernel_rfl) (fun r196 h197 w198 hM199 => ?_)
        have HR := hr_lt HR h197
        cases r196
        · refine S_val (.bool false) (by kernel_rfl) (S_nil (?_))
          have HR := hr_neg HR Bool.false_ne_true
          refine R_ret hM199 rfl (.cons (.tmp _ (.bool false) (by kernel_rfl)) .nil) rfl ?_
          exact ⟨congrArg Ending.returned HR, hM199.below⟩
        · refine S_val (.bool true) (by kernel_rfl) (S_nil (?_))
          have HR := hr_pos HR rfl
          refine R_ret hM199 rfl (.cons (.tmp _ (.bool true) (by kernel_rfl)) .nil) rfl ?_
          exact ⟨congrArg Ending.returned HR, hM199.below⟩
    · refine G_val (.tuple #[.agg #[.int .i64 (wHi r164), .int .u64 (wLo r164)], .bool true]) (fun _ => by kernel_rfl) (G_val (.agg #[.int .i64 (wHi r164), .int .u64 (wLo r164)]) (fun _ => by kernel_rfl) (G_val (.bool true) (fun _ => by kernel_rfl) (G_fresh none #[.int .i64 0, .int .u64 0] 24 hL161 (by kernel_rfl) (fun _ => by kernel_rfl) (fun g202 F203 U204 hL205 => G_store 0 0 #[.int .i64 (wHi r164), .int .u64 (wLo r164)] hL205 (by kernel_rfl) (by kernel_rfl) (fun F206 hL207 => G_val (.bool true) (fun _ => by kernel_rfl) (G_nil hM3 hL207 (fun w208 hM209 => S_nil (R_seq (R_region (S_val (.int .i64 a) (by kernel_rfl) (S_call (wof a) (fun r : Int => .agg #[.int .i64 (wHi r), .int .u64 (wLo r)]) hM209 (c_wide_Of a h_a w208) (by kernel_rfl) (fun r210 h211 w212 hM213 => ?_))))))))))))
      have HR := hr_pos HR rfl
      have HR := hr_lt HR h211
      refine S_call (wneg2 r210) (fun r : Int × Bool => .tuple #[.agg #[.int .i64 (wHi r.1), .int .u64 (wLo r.1)], .bool r.2]) hM213 (c_wide_Neg r210 ((tr (P := fun r : Int => InW r) h211 (wof_W h_a)).out) w212) (by kernel_rfl) (fun r214 h215 w216 hM217 => ?_)
      have HR := hr_lt HR h215
      obtain ⟨r218, b220⟩ := r214
      cases b220
      · refine S_val (.tuple #[.agg #[.int .i64 (wHi r218), .int .u64 (wLo r218)], .bool false]) (by kernel_rfl) (S_val (.agg #[.int .i64 (wHi r218), .int .u64 (wLo r218)]) (by kernel_rfl) (S_val (.bool false) (by kernel_rfl) (S_fresh none #[.int .i64 0, .int .u64 0] 24 hM217 (by kernel_rfl) (fun g221 w222 hM223 => S_store 0 0 #[.int .i64 (wHi r218), .int .u64 (wLo r218)] hM223 (by kernel_rfl) (fun w224 hM225 => S_val (.bool false) (by kernel_rfl) (S_nil (R_seq (R_seq (R_region (S_val (.bool false) (by kernel_rfl) (S_val (.bool true) (by kernel_rfl) (?_))))))))))))
        have HR := hr_neg HR Bool.false_ne_true
        refine S_nil (R_yes (by kernel_rfl) (R_seq (R_region (S_val (.bool false) (by kernel_rfl) (S_nil (?_))))))
        refine R_ret hM225 rfl (.cons (.tmp _ (.bool false) (by kernel_rfl)) .nil) rfl ?_
        exact ⟨congrArg Ending.returned HR, hM225.below⟩
      · refine S_val (.tuple #[.agg #[.int .i64 (wHi r218), .int .u64 (wLo r218)], .bool true]) (by kernel_rfl) (S_val (.agg #[.int .i64 (wHi r218), .int .u64 (wLo r218)]) (by kernel_rfl) (S_val (.bool true) (by kernel_rfl) (S_fresh none #[.int .i64 0, .int .u64 0] 24 hM217 (by kernel_rfl) (fun g226 w227 hM228 => S_store 0 0 #[.int .i64 (wHi r218), .int .u64 (wLo r218)] hM228 (by kernel_rfl) (fun w229 hM230 => S_val (.bool true) (by kernel_rfl) (S_nil (R_seq (R_seq (R_region (S_val (.bool true) (by kernel_rfl) (S_val (.bool false) (by kernel_rfl) (?_))))))))))))
        have HR := hr_pos HR rfl
        refine S_nil (R_no (by kernel_rfl) (R_skip (R_seq (R_seq (R_region (S_val (.bool true) (by kernel_rfl) (S_nil (R_yes (by kernel_rfl) (R_seq (R_region (S_load 1 0 (.agg #[.int .i64 (wHi r164), .int .u64 (wLo r164)]) hM230 (by kernel_rfl) (?_))))))))))))
        refine S_load 0 0 (.agg #[.int .i64 (wHi r218), .int .u64 (wLo r218)]) hM230 (by kernel_rfl) (S_fresh (some 2) #[.int .i64 (wHi r164), .int .u64 (wLo r164), .int .i64 (wHi r218), .int .u64 (wLo r218)] 24 hM230 (by kernel_rfl) (fun g231 w232 hM233 => S_call (addW [r164, r218]) (fun r : Int × Bool => .tuple #[.agg #[.int .i64 (wHi r.1), .int .u64 (wLo r.1)], .bool r.2]) hM233 (wAddL [r164, r218] ⟨(tr (P := fun r : Int × Bool => (InW r.1 ∧ True)) h163 (addW_W [c, r156])).out.1, (tr (P := fun r : Int × Bool => (InW r.1 ∧ True)) h215 (wneg2_W ((tr (P := fun r : Int => InW r) h211 (wof_W h_a)).out))).out.1, trivial⟩ hM233 0 2 2 rfl (by kernel_rfl) (by kernel_rfl)) (by kernel_rfl) (fun r234 h235 w236 hM237 => ?_)))
        have HR := hr_lt HR h235
        obtain ⟨r238, b240⟩ := r234
        cases b240
        · refine S_val (.tuple #[.agg #[.int .i64 (wHi r238), .int .u64 (wLo r238)], .bool false]) (by kernel_rfl) (S_val (.agg #[.int .i64 (wHi r238), .int .u64 (wLo r238)]) (by kernel_rfl) (S_val (.bool false) (by kernel_rfl) (S_fresh none #[.int .i64 0, .int .u64 0] 24 hM237 (by kernel_rfl) (fun g241 w242 hM243 => S_store 0 0 #[.int .i64 (wHi r238), .int .u64 (wLo r238)] hM243 (by kernel_rfl) (fun w244 hM245 => S_val (.bool false) (by kernel_rfl) (S_nil (R_seq (R_region (S_val (.bool false) (by kernel_rfl) (S_val (.bool true) (by kernel_rfl) (S_val (.bool true) (by kernel_rfl) (?_))))))))))))
          have HR := hr_neg HR Bool.false_ne_true
          refine S_skip (by kernel_rfl) (S_skip (by kernel_rfl) (S_skip (by kernel_rfl) (S_val (.bool true) (by kernel_rfl) (S_nil (R_yes (by kernel_rfl) (R_seq (R_region (S_val (.bool false) (by kernel_rfl) (S_nil (?_))))))))))
          refine R_ret hM245 rfl (.cons (.tmp _ (.bool false) (by kernel_rfl)) .nil) rfl ?_
          exact ⟨congrArg Ending.returned HR, hM245.below⟩
        · refine S_val (.tuple #[.agg #[.int .i64 (wHi r238), .int .u64 (wLo r238)], .bool true]) (by kernel_rfl) (S_val (.agg #[.int .i64 (wHi r238), .int .u64 (wLo r238)]) (by kernel_rfl) (S_val (.bool true) (by kernel_rfl) (S_fresh none #[.int .i64 0, .int .u64 0] 24 hM237 (by kernel_rfl) (fun g246 w247 hM248 => S_store 0 0 #[.int .i64 (wHi r238), .int .u64 (wLo r238)] hM248 (by kernel_rfl) (fun w249 hM250 => S_val (.bool true) (by kernel_rfl) (S_nil (R_seq (R_region (S_val (.bool true) (by kernel_rfl) (S_val (.bool false) (by kernel_rfl) (S_val (.bool false) (by kernel_rfl) (?_))))))))))))
          have HR := hr_pos HR rfl
          refine S_load 0 0 (.agg #[.int .i64 (wHi r238), .int .u64 (wLo r238)]) hM250 (by kernel_rfl) (S_load 5 0 (.agg #[.int .i64 (wHi c), .int .u64 (wLo c)]) hM250 (by kernel_rfl) (?_))
          refine S_decn ((r238 : Int) = c) (eqv_Wn (x := r238) (y := c) (by kernel_rfl) (by kernel_rfl) (by kernel_rfl)) (fun c251 => ?_) (fun c251 => ?_)
          · refine S_val (.bool true) (by kernel_rfl) (S_nil (R_yes (by kernel_rfl) (R_seq (R_region (S_val (.bool false) (by kernel_rfl) (S_nil (?_)))))))
            have HR := hr_neg HR c251
            refine R_ret hM250 rfl (.cons (.tmp _ (.bool false) (by kernel_rfl)) .nil) rfl ?_
            exact ⟨congrArg Ending.returned HR, hM250.below⟩
          · refine S_val (.bool false) (by kernel_rfl) (S_nil (R_no (by kernel_rfl) (R_skip (R_seq (R_region (S_call (works01 ) (fun r : Bool => .bool r) hM250 (c_works01  w249) (by kernel_rfl) (fun r252 h253 w254 hM255 => ?_)))))))
            have HR := hr_pos HR c251
            have HR := hr_lt HR h253
            cases r252
            · refine S_val (.bool false) (by kernel_rfl) (S_nil (?_))
              have HR := hr_neg HR Bool.false_ne_true
              refine R_ret hM255 rfl (.cons (.tmp _ (.bool false) (by kernel_rfl)) .nil) rfl ?_
              exact ⟨congrArg Ending.returned HR, hM255.below⟩
            · refine S_val (.bool true) (by kernel_rfl) (S_nil (?_))
              have HR := hr_pos HR rfl
              refine R_ret hM255 rfl (.cons (.tmp _ (.bool true) (by kernel_rfl)) .nil) rfl ?_
              exact ⟨congrArg Ending.returned HR, hM255.below⟩

theorem addW2 {c d : Int} (hc : InW c) (h : InW (c + d)) : addW [c, d] = (c + d, true) := by
  have e1 : InWb c = true := decide_eq_true hc
  have e2 : InWb (c + d) = true := decide_eq_true h
  unfold addW addL addL addL
  simp [e1, e2]
theorem addW2n {c d : Int} (hc : InW c) (h : (addW [c, d]).2 = true) : InW (c + d) := by
  have e1 : InWb c = true := decide_eq_true hc
  unfold addW addL addL addL at h
  by_cases e2 : InWb (c + d) = true
  · unfold InWb at e2
    simp only [decide_eq_true_eq] at e2
    exact e2
  · exfalso
    simp [e1, e2] at h
theorem WideBack_true (a b c : Int) (ha : InI a) (hb : InI b) (hc : InW c) : s_umbralaw01_WideBack a b c = true := by
  unfold s_umbralaw01_WideBack
  simp only [lt, wof, works01, if_true]
  have hn : wneg2 a = (-a, true) := by
    have := negOk_true (x := a) (by unfold InI at ha; omega)
    unfold wneg2
    rw [negN_ok this, this]
  have hadd : (if (addW [c, a]).2 = true then
      (if (wneg2 a).2 = true then (if (addW [(addW [c, a]).1, (wneg2 a).1]).2 = true then (if (addW [(addW [c, a]).1, (wneg2 a).1]).1 = c then true else false) else false) else false)
      else (if (wneg2 a).2 = true then true else false)) = true := by
    rw [hn]
    by_cases h : (addW [c, a]).2 = true
    · have hw := addW2n hc h
      rw [if_pos h, addW2 hc hw]
      simp only
      have e : c + a + -a = c := by omega
      rw [addW2 hw (by rw [e]; exact hc), e]
      simp
    · rw [if_neg h]
      simp
  by_cases h0 : b = 0
  · rw [if_pos h0]
    exact hadd
  · rw [if_neg h0]
    have hq : fq (a * b) b = a ∧ fr (a * b) b = 0 := by
      unfold fq fr
      by_cases hp : 0 < b
      · rw [if_pos hp, if_pos hp]
        exact ⟨Int.mul_ediv_cancel _ h0, Int.mul_emod_left _ _⟩
      · rw [if_neg hp, if_neg hp, ← Int.mul_neg]
        exact ⟨Int.mul_ediv_cancel _ (by omega), by rw [Int.mul_emod_left]; rfl⟩
    have hok : divOk (a * b) b = true := by
      unfold divOk
      rw [hq.1, decide_eq_true h0]
      exact decide_eq_true (by unfold InI at ha; omega)
    have hd : wdivT (a * b) b = (a, 0, true) := by
      unfold wdivT divQ divR
      rw [hok, if_pos rfl, if_pos rfl, hq.1, hq.2]
    generalize wdivT (a * b) b = r at *
    subst hd
    simp only
    rw [if_pos trivial, if_pos trivial, if_pos trivial]
    exact hadd

theorem lawWideBack (a0 : Int) (h0 : Fits .i64 a0) (a1 : Int) (h1 : Fits .i64 a1) (ns2 : List Int) (h2 : Al2 Fits [.i64, .u64] ns2) (w : World) : Calls Try.prog 10 #[.int .i64 a0, .int .i64 a1, .agg (vals [.i64, .u64] ns2).toArray] w (Ret (.bool true) w) := by
  obtain ⟨b2_0, l2_0, rfl, f2_0, h2⟩ := al2_cons h2
  obtain ⟨b2_1, l2_1, rfl, f2_1, h2⟩ := al2_cons h2
  obtain rfl := al2_nil h2
  obtain ⟨x2, rfl, rfl, k2⟩ := wide_of f2_0 f2_1
  have hw := w_umbralaw01_WideBack a0 a1 x2 (fit_i64 h0) (fit_i64 h1) k2 w
  rw [WideBack_true a0 a1 x2 (fit_i64 h0) (fit_i64 h1) k2] at hw
  exact hw

end Go.Proofs.Ytlpnklcnheafoaa
