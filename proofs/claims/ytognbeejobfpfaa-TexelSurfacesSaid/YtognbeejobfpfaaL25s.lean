/- Walk: TexelSurfaces. -/
import Derived.Test.YtognbeejobfpfaaG25s
namespace Go.Proofs.Ytognbeejobfpfaa
open Go.RowKit Go.Sort
set_option linter.unusedVariables false
set_option linter.unusedSimpArgs false

def fewT (x : Tx) : Tx := (x.1, x.2.1, x.2.2.1, List.take (Int.toNat (gmin (List.length x.2.2.2 : Int) 260)) x.2.2.2)
theorem few_ok {w : World} {x r : Tx} (h : TxOk w x) (hr : fewT x = r) : TxS w r := by
  subst hr
  refine ⟨⟨h.rd.cut _, ?_, h.inI, fun y hy => h.inV y (List.mem_of_mem_take hy)⟩, few_le rfl⟩
  have := h.cap
  show (List.take _ _).length ≤ x.2.2.1
  rw [List.length_take]; omega
theorem c_few (x : Tx) (w : World) (h : TxOk w x) : Calls Try.prog 13 #[.agg #[.int .i64 x.1, .slice x.2.1 (List.length x.2.2.2) x.2.2.1]] w (Ret ((fun r : Tx => .agg #[.int .i64 r.1, .slice r.2.1 (List.length r.2.2.2) r.2.2.1]) (fewT x)) w) := few_w x.1 x.2.2.2 h.rd h.cap

def e_umbralaw25_TexelSurfaces (r : Bool) : Value := .bool r
def s_umbralaw25_TexelSurfaces (LL : List (Tx)) (p : (Int × Int × Int) × ((Int × Int) × (Int × Int) × (Int × Int)) × (Int × Int × Int × Int) × Int) : Bool :=
  if 0 < (List.length LL : Int) then
    lt (fewT (gd tx0 LL 0)) fun r60 =>
    if 1 < (List.length LL : Int) then
      lt (fewT (gd tx0 LL 1)) fun r74 =>
      if 2 < (List.length LL : Int) then
        lt (fewT (gd tx0 LL 2)) fun r88 =>
        if 3 < (List.length LL : Int) then
          lt (fewT (gd tx0 LL 3)) fun r102 =>
          if 4 < (List.length LL : Int) then
            lt (fewT (gd tx0 LL 4)) fun r116 =>
            if 5 < (List.length LL : Int) then
              lt (fewT (gd tx0 LL 5)) fun r130 =>
              if 6 < (List.length LL : Int) then
                lt (lvl [r60, r74, r88, r102, r116, r130] p.2.2.2) fun r12 =>
                if (List.length [r60, r74, r88, r102, r116, r130] : Int) > 0 then
                  lt (gmax p.2.2.2 0) fun x25 =>
                  lt (IntKind.i64.wrap ((List.length [r60, r74, r88, r102, r116, r130] : Int) - 1)) fun x27 =>
                  lt (gmin x25 x27) fun x29 =>
                  lt (s_umbraref14_Same r12.1 r12.2.2.2 ((gd tx0 [r60, r74, r88, r102, r116, r130] x29).1) ((gd tx0 [r60, r74, r88, r102, r116, r130] x29).2.2.2)) fun r31 =>
                  if r31 = true then
                    lt (s_texel_Surface_1 [r60, r74, r88, r102, r116, r130] p.1 p.2.1 p.2.2.1 p.2.2.2) fun r40 =>
                    lt (s_umbraref25_Surface_1 [r60, r74, r88, r102, r116, r130] p.1 p.2.1 p.2.2.1 p.2.2.2) fun r42 =>
                    if (r40 : Int × Int × Int) = r42 then
                      lt (s_umbralaw25_works ) fun r45 =>
                      if r45 = true then
                        true
                      else
                        false
                    else
                      false
                  else
                    false
                else
                  false
              else
                lt (lvl [r60, r74, r88, r102, r116, r130] p.2.2.2) fun r12 =>
                if (List.length [r60, r74, r88, r102, r116, r130] : Int) > 0 then
                  lt (gmax p.2.2.2 0) fun x25 =>
                  lt (IntKind.i64.wrap ((List.length [r60, r74, r88, r102, r116, r130] : Int) - 1)) fun x27 =>
                  lt (gmin x25 x27) fun x29 =>
                  lt (s_umbraref14_Same r12.1 r12.2.2.2 ((gd tx0 [r60, r74, r88, r102, r116, r130] x29).1) ((gd tx0 [r60, r74, r88, r102, r116, r130] x29).2.2.2)) fun r31 =>
                  if r31 = true then
                    lt (s_texel_Surface_1 [r60, r74, r88, r102, r116, r130] p.1 p.2.1 p.2.2.1 p.2.2.2) fun r40 =>
                    lt (s_umbraref25_Surface_1 [r60, r74, r88, r102, r116, r130] p.1 p.2.1 p.2.2.1 p.2.2.2) fun r42 =>
                    if (r40 : Int × Int × Int) = r42 then
                      lt (s_umbralaw25_works ) fun r45 =>
                      if r45 = true then
                        true
                      else
                        false
                    else
                      false
                  else
                    false
                else
                  false
            else
              lt (lvl [r60, r74, r88, r102, r116] p.2.2.2) fun r12 =>
              if (List.length [r60, r74, r88, r102, r116] : Int) > 0 then
                lt (gmax p.2.2.2 0) fun x25 =>
                lt (IntKind.i64.wrap ((List.length [r60, r74, r88, r102, r116] : Int) - 1)) fun x27 =>
                lt (gmin x25 x27) fun x29 =>
                lt (s_umbraref14_Same r12.1 r12.2.2.2 ((gd tx0 [r60, r74, r88, r102, r116] x29).1) ((gd tx0 [r60, r74, r88, r102, r116] x29).2.2.2)) fun r31 =>
                if r31 = true then
                  lt (s_texel_Surface_1 [r60, r74, r88, r102, r116] p.1 p.2.1 p.2.2.1 p.2.2.2) fun r40 =>
                  lt (s_umbraref25_Surface_1 [r60, r74, r88, r102, r116] p.1 p.2.1 p.2.2.1 p.2.2.2) fun r42 =>
                  if (r40 : Int × Int × Int) = r42 then
                    lt (s_umbralaw25_works ) fun r45 =>
                    if r45 = true then
                      true
                    else
                      false
                  else
                    false
                else
                  false
              else
                false
          else
            lt (lvl [r60, r74, r88, r102] p.2.2.2) fun r12 =>
            if (List.length [r60, r74, r88, r102] : Int) > 0 then
              lt (gmax p.2.2.2 0) fun x25 =>
              lt (IntKind.i64.wrap ((List.length [r60, r74, r88, r102] : Int) - 1)) fun x27 =>
              lt (gmin x25 x27) fun x29 =>
              lt (s_umbraref14_Same r12.1 r12.2.2.2 ((gd tx0 [r60, r74, r88, r102] x29).1) ((gd tx0 [r60, r74, r88, r102] x29).2.2.2)) fun r31 =>
              if r31 = true then
                lt (s_texel_Surface_1 [r60, r74, r88, r102] p.1 p.2.1 p.2.2.1 p.2.2.2) fun r40 =>
                lt (s_umbraref25_Surface_1 [r60, r74, r88, r102] p.1 p.2.1 p.2.2.1 p.2.2.2) fun r42 =>
                if (r40 : Int × Int × Int) = r42 then
                  lt (s_umbralaw25_works ) fun r45 =>
                  if r45 = true then
                    true
                  else
                    false
                else
                  false
              else
                false
            else
              false
        else
          lt (lvl [r60, r74, r88] p.2.2.2) fun r12 =>
          if (List.length [r60, r74, r88] : Int) > 0 then
            lt (gmax p.2.2.2 0) fun x25 =>
            lt (IntKind.i64.wrap ((List.length [r60, r74, r88] : Int) - 1)) fun x27 =>
            lt (gmin x25 x27) fun x29 =>
            lt (s_umbraref14_Same r12.1 r12.2.2.2 ((gd tx0 [r60, r74, r88] x29).1) ((gd tx0 [r60, r74, r88] x29).2.2.2)) fun r31 =>
            if r31 = true then
              lt (s_texel_Surface_1 [r60, r74, r88] p.1 p.2.1 p.2.2.1 p.2.2.2) fun r40 =>
              lt (s_umbraref25_Surface_1 [r60, r74, r88] p.1 p.2.1 p.2.2.1 p.2.2.2) fun r42 =>
              if (r40 : Int × Int × Int) = r42 then
                lt (s_umbralaw25_works ) fun r45 =>
                if r45 = true then
                  true
                else
                  false
              else
                false
            else
              false
          else
            false
      else
        lt (lvl [r60, r74] p.2.2.2) fun r12 =>
        if (List.length [r60, r74] : Int) > 0 then
          lt (gmax p.2.2.2 0) fun x25 =>
          lt (IntKind.i64.wrap ((List.length [r60, r74] : Int) - 1)) fun x27 =>
          lt (gmin x25 x27) fun x29 =>
          lt (s_umbraref14_Same r12.1 r12.2.2.2 ((gd tx0 [r60, r74] x29).1) ((gd tx0 [r60, r74] x29).2.2.2)) fun r31 =>
          if r31 = true then
            lt (s_texel_Surface_1 [r60, r74] p.1 p.2.1 p.2.2.1 p.2.2.2) fun r40 =>
            lt (s_umbraref25_Surface_1 [r60, r74] p.1 p.2.1 p.2.2.1 p.2.2.2) fun r42 =>
            if (r40 : Int × Int × Int) = r42 then
              lt (s_umbralaw25_works ) fun r45 =>
              if r45 = true then
                true
              else
                false
            else
              false
          else
            false
        else
          false
    else
      lt (lvl [r60] p.2.2.2) fun r12 =>
      if (List.length [r60] : Int) > 0 then
        lt (gmax p.2.2.2 0) fun x25 =>
        lt (IntKind.i64.wrap ((List.length [r60] : Int) - 1)) fun x27 =>
        lt (gmin x25 x27) fun x29 =>
        lt (s_umbraref14_Same r12.1 r12.2.2.2 ((gd tx0 [r60] x29).1) ((gd tx0 [r60] x29).2.2.2)) fun r31 =>
        if r31 = true then
          lt (s_texel_Surface_1 [r60] p.1 p.2.1 p.2.2.1 p.2.2.2) fun r40 =>
          lt (s_umbraref25_Surface_1 [r60] p.1 p.2.1 p.2.2.1 p.2.2.2) fun r42 =>
          if (r40 : Int × Int × Int) = r42 then
            lt (s_umbralaw25_works ) fun r45 =>
            if r45 = true then
              true
            else
              false
          else
            false
        else
          false
      else
        false
  else
    lt (()) fun r151 =>
    lt (s_texel_Surface_0 p.1 p.2.1 p.2.2.1 p.2.2.2) fun r168 =>
    lt (s_umbraref25_Surface_0 p.1 p.2.1 p.2.2.1 p.2.2.2) fun r170 =>
    if (r168 : Int × Int × Int) = r170 then
      lt (s_umbralaw25_works ) fun r173 =>
      if r173 = true then
        true
      else
        false
    else
      false
set_option maxRecDepth 100000 in
set_option maxHeartbeats 4000000 in
theorem w_umbralaw25_TexelSurfaces (LL : List (Tx)) (p : (Int × Int × Int) × ((Int × Int) × (Int × Int) × (Int × Int)) × (Int × Int × Int × Int) × Int) (h_p : (InV p.1 ∧ ((InI p.2.1.1.1 ∧ InI p.2.1.1.2) ∧ (InI p.2.1.2.1.1 ∧ InI p.2.1.2.1.2) ∧ (InI p.2.1.2.2.1 ∧ InI p.2.1.2.2.2)) ∧ InM p.2.2.1 ∧ InI p.2.2.2)) (w : World) (AL : Option Addr) (capL : Nat) (hRL : Rd tE 2 w AL LL) (hT : ∀ x ∈ LL, TxOk w x) : Calls Try.prog 8 #[.slice AL (List.length LL) capL, .agg #[.int .i64 p.1.1, .int .i64 p.1.2.1, .int .i64 p.1.2.2, .int .i64 p.2.1.1.1, .int .i64 p.2.1.1.2, .int .i64 p.2.1.2.1.1, .int .i64 p.2.1.2.1.2, .int .i64 p.2.1.2.2.1, .int .i64 p.2.1.2.2.2, .int .i64 p.2.2.1.1, .int .i64 p.2.2.1.2.1, .int .i64 p.2.2.1.2.2.1, .int .i64 p.2.2.1.2.2.2, .int .i64 p.2.2.2]] w (Ret (e_umbralaw25_TexelSurfaces (s_umbralaw25_TexelSurfaces LL p)) w) := by
  obtain ⟨R, HR⟩ : ∃ R, e_umbralaw25_TexelSurfaces (s_umbralaw25_TexelSurfaces LL p) = R := ⟨_, rfl⟩
  rw [HR]
  unfold s_umbralaw25_TexelSurfaces at HR
  have hM0 := St.start w
  refine calls_run Try.func8 rfl ?_
  refine R_seq (R_region (S_fresh none #[.int .i64 p.1.1, .int .i64 p.1.2.1, .int .i64 p.1.2.2, .int .i64 p.2.1.1.1, .int .i64 p.2.1.1.2, .int .i64 p.2.1.2.1.1, .int .i64 p.2.1.2.1.2, .int .i64 p.2.1.2.2.1, .int .i64 p.2.1.2.2.2, .int .i64 p.2.2.1.1, .int .i64 p.2.2.1.2.1, .int .i64 p.2.2.1.2.2.1, .int .i64 p.2.2.1.2.2.2, .int .i64 p.2.2.2] 62 hM0 (by kernel_rfl) (fun g1 w2 hM3 => S_val (.bool false) (by kernel_rfl) (S_nil (?_)))))
  refine R_joinS2 (fun a10 w4 => ∃ (L : List Tx) (g7 cap8 : Nat) (rest9 u11 : List Value), a10 = { tmps := #[.slice AL (List.length LL) capL, .agg #[.int .i64 p.1.1, .int .i64 p.1.2.1, .int .i64 p.1.2.2, .int .i64 p.2.1.1.1, .int .i64 p.2.1.1.2, .int .i64 p.2.1.2.1.1, .int .i64 p.2.1.2.1.2, .int .i64 p.2.1.2.2.1, .int .i64 p.2.1.2.2.2, .int .i64 p.2.2.1.1, .int .i64 p.2.2.1.2.1, .int .i64 p.2.2.1.2.2.1, .int .i64 p.2.2.1.2.2.2, .int .i64 p.2.2.2], undef, .pointer (some ⟨g1, 0, none⟩), .bool false, .slice (some ⟨g7, 0, none⟩) (List.length L) cap8, (gv u11 0), undef, undef, (gv u11 1), (gv u11 2), (gv u11 3), (gv u11 4), (gv u11 5), (gv u11 6), (gv u11 7), (gv u11 8), (gv u11 9), (gv u11 10), (gv u11 11), (gv u11 12), (gv u11 13), (gv u11 14), (gv u11 15), (gv u11 16), (gv u11 17), (gv u11 18), undef, undef, undef, undef, undef, undef, undef, undef, undef, undef, undef, undef, undef, undef, undef, undef, undef, undef, undef, undef, undef, undef, undef, undef, undef, undef, undef, undef, undef, undef, undef, undef, undef, undef, undef, undef, undef, undef, undef, undef, undef, undef, undef, undef, undef, undef, undef, undef, undef, undef, undef, undef, undef, undef], defers := [] } ∧ St w [⟨g7, ⟨flatT L ++ rest9⟩, 24, (0, 0), true⟩, ⟨g1, #[.int .i64 p.1.1, .int .i64 p.1.2.1, .int .i64 p.1.2.2, .int .i64 p.2.1.1.1, .int .i64 p.2.1.1.2, .int .i64 p.2.1.2.1.1, .int .i64 p.2.1.2.1.2, .int .i64 p.2.1.2.2.1, .int .i64 p.2.1.2.2.2, .int .i64 p.2.2.1.1, .int .i64 p.2.2.1.2.1, .int .i64 p.2.2.1.2.2.1, .int .i64 p.2.2.1.2.2.2, .int .i64 p.2.2.2], 62, (0, 0), true⟩] w4 ∧ (∀ x ∈ L, TxS w x) ∧ 0 < (List.length L : Int) ∧ (List.length L : Int) ≤ 1000 ∧ e_umbralaw25_TexelSurfaces (
      lt (lvl L p.2.2.2) fun r12 =>
      if (List.length L : Int) > 0 then
        lt (gmax p.2.2.2 0) fun x25 =>
        lt (IntKind.i64.wrap ((List.length L : Int) - 1)) fun x27 =>
        lt (gmin x25 x27) fun x29 =>
        lt (s_umbraref14_Same r12.1 r12.2.2.2 ((gd tx0 L x29).1) ((gd tx0 L x29).2.2.2)) fun r31 =>
        if r31 = true then
          lt (s_texel_Surface_1 L p.1 p.2.1 p.2.2.1 p.2.2.2) fun r40 =>
          lt (s_umbraref25_Surface_1 L p.1 p.2.1 p.2.2.1 p.2.2.2) fun r42 =>
          if (r40 : Int × Int × Int) = r42 then
            lt (s_umbralaw25_works ) fun r45 =>
            if r45 = true then
              true
            else
              false
          else
            false
        else
          false
      else
        false
  ) = R) ?_ (fun hn6 => ?_)
  · rintro _ w4 ⟨L, g7, cap8, rest9, u11, rfl, hM5, hTL, hL, hm, HR⟩
    refine R_seq (R_region (S_val (.slice (some ⟨g7, 0, none⟩) (List.length L) cap8) (by kernel_rfl) (S_val (.pointer (some ⟨g1, 13, none⟩)) (by kernel_rfl) (S_load 1 13 (.int .i64 p.2.2.2) hM5 (by kernel_rfl) (S_call (lvl L p.2.2.2) (fun r : Tx => .tuple #[.agg #[.int .i64 r.1, .slice r.2.1 (List.length r.2.2.2) r.2.2.1], .bool true]) hM5 (c_Pick1 L p.2.2.2 w4 (some ⟨g7, 0, none⟩) cap8 (rdT_of hM5 0 L rest9 rfl) (fun x hx => TxS.stay (hTL x hx) (St.below hM5)) hL hm) (by kernel_rfl) (fun r12 h13 w14 hM15 => S_val (.tuple #[.agg #[.int .i64 r12.1, .slice r12.2.1 (List.length r12.2.2.2) r12.2.2.1], .bool true]) (by kernel_rfl) (S_val (.agg #[.int .i64 r12.1, .slice r12.2.1 (List.length r12.2.2.2) r12.2.2.1]) (by kernel_rfl) (S_val (.bool true) (by kernel_rfl) (S_fresh none #[.int .i64 0, .slice none 0 0] 24 hM15 (by kernel_rfl) (fun g16 w17 hM18 => S_store 0 0 #[.int .i64 r12.1, .slice r12.2.1 (List.length r12.2.2.2) r12.2.2.1] hM18 (by kernel_rfl) (fun w19 hM20 => S_val (.bool true) (by kernel_rfl) (?_))))))))))))
    have HR := hr_lt HR h13
    refine S_nil (R_seq (R_seq (R_drawF 23 (by kernel_rfl) (fun F21 U22 hL23 => F_val (.bool true) (fun _ => by kernel_rfl) (F_val (.slice (some ⟨g7, 0, none⟩) (List.length L) cap8) (fun _ => by kernel_rfl) (F_val (.int .i64 (List.length L : Int)) (fun _ => by kernel_rfl) (?_)))))))
    refine F_dec ((List.length L : Int) > 0) (fun _ => by kernel_rfl) (fun c24 => ?_) (fun c24 => ?_)
    · refine F_val (.bool false) (fun _ => by kernel_rfl) (F_val (.bool false) (fun _ => by kernel_rfl) (F_val (.bool true) (fun _ => by kernel_rfl) (F_val (.bool true) (fun _ => by kernel_rfl) (F_load 0 0 (.agg #[.int .i64 r12.1, .slice r12.2.1 (List.length r12.2.2.2) r12.2.2.1]) hM20 (by kernel_rfl) (F_val (.slice (some ⟨g7, 0, none⟩) (List.length L) cap8) (fun _ => by kernel_rfl) (F_val (.pointer (some ⟨g1, 13, none⟩)) (fun _ => by kernel_rfl) (F_load 2 13 (.int .i64 p.2.2.2) hM20 (by kernel_rfl) (F_int (gmax p.2.2.2 0) .i64 (fun _ => by kernel_rfl) (fun x25 h26 => F_val (.slice (some ⟨g7, 0, none⟩) (List.length L) cap8) (fun _ => by kernel_rfl) (F_val (.int .i64 (List.length L : Int)) (fun _ => by kernel_rfl) (F_int (IntKind.i64.wrap ((List.length L : Int) - 1)) .i64 (fun _ => by kernel_rfl) (fun x27 h28 => ?_))))))))))))
      have HR := hr_pos HR c24
      have HR := hr_lt HR h26
      have HR := hr_lt HR h28
      refine F_int (gmin x25 x27) .i64 (fun _ => by kernel_rfl) (fun x29 h30 => ?_)
      have HR := hr_lt HR h30
      refine F_idx 24 2 g7 0 (List.length L) cap8 x29 (lvl_ix hL hm h26 h28 h30).1 (by kernel_rfl) (F_loadR tE 2 tx0 x29 0 g7 0 (.agg #[.int .i64 ((gd tx0 L x29).1), .slice ((gd tx0 L x29).2.1) (List.length ((gd tx0 L x29).2.2.2)) ((gd tx0 L x29).2.2.1)]) (rdT_of hM20 1 L rest9 rfl) tE_len (lvl_ix hL hm h26 h28 h30).1 (by kernel_rfl) (F_call (s_umbraref14_Same r12.1 r12.2.2.2 ((gd tx0 L x29).1) ((gd tx0 L x29).2.2.2)) (fun r : Bool => .bool r) hM20 hL23 (fun w' hM' => w_umbraref14_Same r12.1 r12.2.2.2 ((gd tx0 L x29).1) ((gd tx0 L x29).2.2.2) w' r12.2.1 r12.2.2.1 ((gd tx0 L x29).2.1) ((gd tx0 L x29).2.2.1) (Rd.stay (lvl_ok hTL hL h13).toTxOk.rd (St.below hM')) (Rd.stay (txs_at hTL (lvl_ix hL hm h26 h28 h30).1).toTxOk.rd (St.below hM')) (lvl_ok hTL hL h13).small) (by kernel_rfl) (fun _ => by kernel_rfl) (fun r31 h32 => ?_)))
      have HR := hr_lt HR h32
      cases r31
      · refine F_val (.bool true) (fun _ => by kernel_rfl) (F_val (.bool true) (fun _ => by kernel_rfl) (F_val (.bool true) (fun _ => by kernel_rfl) (F_nil hM20 hL23 (fun w33 hM34 => S_nil (R_yes (by kernel_rfl) (R_seq (R_region (S_val (.bool false) (by kernel_rfl) (S_nil (?_))))))))))
        have HR := hr_neg HR Bool.false_ne_true
        refine R_ret hM34 rfl (.cons (.tmp _ (.bool false) (by kernel_rfl)) .nil) rfl ?_
        exact ⟨congrArg Ending.returned HR, hM34.below⟩
      · refine F_val (.bool false) (fun _ => by kernel_rfl) (F_val (.bool false) (fun _ => by kernel_rfl) (F_val (.bool false) (fun _ => by kernel_rfl) (F_nil hM20 hL23 (fun w35 hM36 => S_nil (R_no (by kernel_rfl) (R_skip (R_seq (R_drawF 25 (by kernel_rfl) (fun F37 U38 hL39 => F_val (.pointer (some ⟨g1, 0, none⟩)) (fun _ => by kernel_rfl) (F_load 2 0 (.agg #[.int .i64 p.1.1, .int .i64 p.1.2.1, .int .i64 p.1.2.2]) hM36 (by kernel_rfl) (F_val (.slice (some ⟨g7, 0, none⟩) (List.length L) cap8) (fun _ => by kernel_rfl) (?_))))))))))))
        have HR := hr_pos HR rfl
        refine F_val (.pointer (some ⟨g1, 3, none⟩)) (fun _ => by kernel_rfl) (F_load 2 3 (.agg #[.int .i64 p.2.1.1.1, .int .i64 p.2.1.1.2, .int .i64 p.2.1.2.1.1, .int .i64 p.2.1.2.1.2, .int .i64 p.2.1.2.2.1, .int .i64 p.2.1.2.2.2]) hM36 (by kernel_rfl) (F_val (.pointer (some ⟨g1, 9, none⟩)) (fun _ => by kernel_rfl) (F_load 2 9 (.agg #[.int .i64 p.2.2.1.1, .int .i64 p.2.2.1.2.1, .int .i64 p.2.2.1.2.2.1, .int .i64 p.2.2.1.2.2.2]) hM36 (by kernel_rfl) (F_val (.pointer (some ⟨g1, 13, none⟩)) (fun _ => by kernel_rfl) (F_load 2 13 (.int .i64 p.2.2.2) hM36 (by kernel_rfl) (F_call (s_texel_Surface_1 L p.1 p.2.1 p.2.2.1 p.2.2.2) (fun r : Int × Int × Int => .agg #[.int .i64 r.1, .int .i64 r.2.1, .int .i64 r.2.2]) hM36 hL39 (fun w' hM' => w_texel_Surface_1 L p.1 p.2.1 p.2.2.1 p.2.2.2 h_p.1 h_p.2.1 h_p.2.2.1 h_p.2.2.2 w' (some ⟨g7, 0, none⟩) cap8 (rdT_of hM' 1 L rest9 rfl) (fun x hx => TxS.stay (hTL x hx) (St.below hM')) hL hm) (by kernel_rfl) (fun _ => by kernel_rfl) (fun r40 h41 => F_val (.pointer (some ⟨g1, 0, none⟩)) (fun _ => by kernel_rfl) (F_load 2 0 (.agg #[.int .i64 p.1.1, .int .i64 p.1.2.1, .int .i64 p.1.2.2]) hM36 (by kernel_rfl) (F_val (.slice (some ⟨g7, 0, none⟩) (List.length L) cap8) (fun _ => by kernel_rfl) (F_val (.pointer (some ⟨g1, 3, none⟩)) (fun _ => by kernel_rfl) (F_load 2 3 (.agg #[.int .i64 p.2.1.1.1, .int .i64 p.2.1.1.2, .int .i64 p.2.1.2.1.1, .int .i64 p.2.1.2.1.2, .int .i64 p.2.1.2.2.1, .int .i64 p.2.1.2.2.2]) hM36 (by kernel_rfl) (?_))))))))))))
        have HR := hr_lt HR h41
        refine F_val (.pointer (some ⟨g1, 9, none⟩)) (fun _ => by kernel_rfl) (F_load 2 9 (.agg #[.int .i64 p.2.2.1.1, .int .i64 p.2.2.1.2.1, .int .i64 p.2.2.1.2.2.1, .int .i64 p.2.2.1.2.2.2]) hM36 (by kernel_rfl) (F_val (.pointer (some ⟨g1, 13, none⟩)) (fun _ => by kernel_rfl) (F_load 2 13 (.int .i64 p.2.2.2) hM36 (by kernel_rfl) (F_call (s_umbraref25_Surface_1 L p.1 p.2.1 p.2.2.1 p.2.2.2) (fun r : Int × Int × Int => .agg #[.int .i64 r.1, .int .i64 r.2.1, .int .i64 r.2.2]) hM36 hL39 (fun w' hM' => w_umbraref25_Surface_1 L p.1 p.2.1 p.2.2.1 p.2.2.2 h_p.1 h_p.2.1 h_p.2.2.1 h_p.2.2.2 w' (some ⟨g7, 0, none⟩) cap8 (rdT_of hM' 1 L rest9 rfl) (fun x hx => TxS.stay (hTL x hx) (St.below hM')) hL hm) (by kernel_rfl) (fun _ => by kernel_rfl) (fun r42 h43 => ?_)))))
        have HR := hr_lt HR h43
        refine F_dec ((r40 : Int × Int × Int) = r42) (fun _ => eqv_umbra_api_Vec (x := r40) (y := r42) (by kernel_rfl) (by kernel_rfl) (by kernel_rfl)) (fun c44 => ?_) (fun c44 => ?_)
        · refine F_val (.bool true) (fun _ => by kernel_rfl) (F_call (s_umbralaw25_works ) (fun r : Bool => .bool r) hM36 hL39 (fun w' hM' => w_umbralaw25_works  w') (by kernel_rfl) (fun _ => by kernel_rfl) (fun r45 h46 => ?_))
          have HR := hr_pos HR c44
          have HR := hr_lt HR h46
          cases r45
          · refine F_val (.bool false) (fun _ => by kernel_rfl) (F_val (.bool false) (fun _ => by kernel_rfl) (F_nil hM36 hL39 (fun w47 hM48 => S_nil (?_))))
            have HR := hr_neg HR Bool.false_ne_true
            refine R_ret hM48 rfl (.cons (.tmp _ (.bool false) (by kernel_rfl)) .nil) rfl ?_
            exact ⟨congrArg Ending.returned HR, hM48.below⟩
          · refine F_val (.bool true) (fun _ => by kernel_rfl) (F_val (.bool true) (fun _ => by kernel_rfl) (F_nil hM36 hL39 (fun w49 hM50 => S_nil (?_))))
            have HR := hr_pos HR rfl
            refine R_ret hM50 rfl (.cons (.tmp _ (.bool true) (by kernel_rfl)) .nil) rfl ?_
            exact ⟨congrArg Ending.returned HR, hM50.below⟩
        · refine F_val (.bool false) (fun _ => by kernel_rfl) (F_skip (by kernel_rfl) (F_val (.bool false) (fun _ => by kernel_rfl) (F_val (.bool false) (fun _ => by kernel_rfl) (F_nil hM36 hL39 (fun w52 hM53 => S_nil (?_))))))
          have HR := hr_neg HR c44
          refine R_ret hM53 rfl (.cons (.tmp _ (.bool false) (by kernel_rfl)) .nil) rfl ?_
          exact ⟨congrArg Ending.returned HR, hM53.below⟩
    · refine F_val (.bool true) (fun _ => by kernel_rfl) (F_val (.bool true) (fun _ => by kernel_rfl) (F_skip (by kernel_rfl) (F_skip (by kernel_rfl) (F_skip (by kernel_rfl) (F_skip (by kernel_rfl) (F_skip (by kernel_rfl) (F_skip (by kernel_rfl) (F_skip (by kernel_rfl) (F_skip (by kernel_rfl) (F_skip (by kernel_rfl) (F_skip (by kernel_rfl) (?_))))))))))))
      have HR := hr_neg HR c24
      refine F_skip (by kernel_rfl) (F_skip (by kernel_rfl) (F_skip (by kernel_rfl) (F_skip (by kernel_rfl) (F_skip (by kernel_rfl) (F_skip (by kernel_rfl) (F_val (.bool true) (fun _ => by kernel_rfl) (F_nil hM20 hL23 (fun w55 hM56 => S_nil (R_yes (by kernel_rfl) (R_seq (R_region (?_))))))))))))
      refine S_val (.bool false) (by kernel_rfl) (S_nil (?_))
      refine R_ret hM56 rfl (.cons (.tmp _ (.bool false) (by kernel_rfl)) .nil) rfl ?_
      exact ⟨congrArg Ending.returned HR, hM56.below⟩
  · refine R_region (S_val (.slice none 0 0) (by kernel_rfl) (S_nil (R_seq (R_seq (R_region (S_val (.int .i64 0) (by kernel_rfl) (S_nil (R_block (R_loop (R_seq (R_seq (?_))))))))))))
    refine R_region (S_val (.int .i64 0) (by kernel_rfl) (S_val (.slice AL (List.length LL) capL) (by kernel_rfl) (S_val (.int .i64 (List.length LL : Int)) (by kernel_rfl) (?_))))
    refine S_dec (0 < (List.length LL : Int)) (by kernel_rfl) (fun c57 => ?_) (fun c57 => ?_)
    · refine S_val (.bool true) (by kernel_rfl) (S_val (.int .i64 0) (by kernel_rfl) (S_val (.bool true) (by kernel_rfl) (S_val (.bool true) (by kernel_rfl) (S_nil (R_yes (by kernel_rfl) (R_skip (R_seq (R_block (R_region (S_val (.slice none 0 0) (by kernel_rfl) (S_val (.slice AL (List.length LL) capL) (by kernel_rfl) (?_))))))))))))
      have HR := hr_pos HR c57
      refine S_val (.int .i64 0) (by kernel_rfl) (?_)
      obtain ⟨b58, off59, rfl⟩ := Rd.op (i := 0) hRL (by omega)
      refine S_idx 24 2 b58 off59 (List.length LL) capL 0 (by omega) (by kernel_rfl) (S_loadX tE 2 tx0 0 0 b58 off59 (.agg #[.int .i64 ((gd tx0 LL 0).1), .slice ((gd tx0 LL 0).2.1) (List.length ((gd tx0 LL 0).2.2.2)) ((gd tx0 LL 0).2.2.1)]) hM3 hRL tE_len (by omega) (by kernel_rfl) (S_call (fewT (gd tx0 LL 0)) (fun r : Tx => .agg #[.int .i64 r.1, .slice r.2.1 (List.length r.2.2.2) r.2.2.1]) hM3 (c_few (gd tx0 LL 0) w2 (TxOk.stay (tx_at hT (by omega)) (St.below hM3))) (by kernel_rfl) (fun r60 h61 w62 hM63 => S_fresh (some 1) #[.int .i64 r60.1, .slice r60.2.1 (List.length r60.2.2.2) r60.2.2.1] 24 hM63 (by kernel_rfl) (fun g64 w65 hM66 => S_app0 0 1 1 24 2 32 (.agg #[.int .i64 0, .slice none 0 0]) [.int .i64 r60.1, .slice r60.2.1 (List.length r60.2.2.2) r60.2.2.1] hM66 (by kernel_rfl) (by kernel_rfl) (fun g67 cap68 rest69 w70 ok71 hM72 => S_val (.slice (some ⟨g67, 0, none⟩) 1 cap68) (by kernel_rfl) (S_nil (R_inBlock (R_region (S_val (.int .i64 0) (by kernel_rfl) (S_val (.int .i64 1) (by kernel_rfl) (S_val (.int .i64 1) (by kernel_rfl) (?_))))))))))))
      have HR := hr_lt HR h61
      refine S_nil (R_inLoop (R_seq (R_seq (R_region (S_val (.int .i64 1) (by kernel_rfl) (S_val (.slice (some ⟨b58, off59, none⟩) (List.length LL) capL) (by kernel_rfl) (S_val (.int .i64 (List.length LL : Int)) (by kernel_rfl) (?_))))))))
      refine S_dec (1 < (List.length LL : Int)) (by kernel_rfl) (fun c73 => ?_) (fun c73 => ?_)
      · refine S_val (.bool true) (by kernel_rfl) (S_val (.int .i64 1) (by kernel_rfl) (S_val (.bool true) (by kernel_rfl) (S_val (.bool true) (by kernel_rfl) (S_nil (R_yes (by kernel_rfl) (R_skip (R_seq (R_block (R_region (S_val (.slice (some ⟨g67, 0, none⟩) 1 cap68) (by kernel_rfl) (S_val (.slice (some ⟨b58, off59, none⟩) (List.length LL) capL) (by kernel_rfl) (?_))))))))))))
        have HR := hr_pos HR c73
        refine S_val (.int .i64 1) (by kernel_rfl) (?_)
        refine S_idx 24 2 b58 off59 (List.length LL) capL 1 (by omega) (by kernel_rfl) (S_loadX tE 2 tx0 1 0 b58 off59 (.agg #[.int .i64 ((gd tx0 LL 1).1), .slice ((gd tx0 LL 1).2.1) (List.length ((gd tx0 LL 1).2.2.2)) ((gd tx0 LL 1).2.2.1)]) hM72 hRL tE_len (by omega) (by kernel_rfl) (S_call (fewT (gd tx0 LL 1)) (fun r : Tx => .agg #[.int .i64 r.1, .slice r.2.1 (List.length r.2.2.2) r.2.2.1]) hM72 (c_few (gd tx0 LL 1) w70 (TxOk.stay (tx_at hT (by omega)) (St.below hM72))) (by kernel_rfl) (fun r74 h75 w76 hM77 => S_fresh (some 1) #[.int .i64 r74.1, .slice r74.2.1 (List.length r74.2.2.2) r74.2.2.1] 24 hM77 (by kernel_rfl) (fun g78 w79 hM80 => S_appN 1 0 1 cap68 1 1 24 2 32 (.agg #[.int .i64 0, .slice none 0 0]) [.int .i64 r60.1, .slice r60.2.1 (List.length r60.2.2.2) r60.2.2.1] rest69 [.int .i64 r74.1, .slice r74.2.1 (List.length r74.2.2.2) r74.2.2.1] hM80 ok71 (by kernel_rfl) (by kernel_rfl) (by omega) (fun g81 cap82 rest83 w84 ok85 hM86 => S_val (.slice (some ⟨g81, 0, none⟩) 2 cap82) (by kernel_rfl) (S_nil (R_inBlock (R_region (S_val (.int .i64 1) (by kernel_rfl) (S_val (.int .i64 2) (by kernel_rfl) (S_val (.int .i64 2) (by kernel_rfl) (?_))))))))))))
        have HR := hr_lt HR h75
        refine S_nil (R_inLoop (R_seq (R_seq (R_region (S_val (.int .i64 2) (by kernel_rfl) (S_val (.slice (some ⟨b58, off59, none⟩) (List.length LL) capL) (by kernel_rfl) (S_val (.int .i64 (List.length LL : Int)) (by kernel_rfl) (?_))))))))
        refine S_dec (2 < (List.length LL : Int)) (by kernel_rfl) (fun c87 => ?_) (fun c87 => ?_)
        · refine S_val (.bool true) (by kernel_rfl) (S_val (.int .i64 2) (by kernel_rfl) (S_val (.bool true) (by kernel_rfl) (S_val (.bool true) (by kernel_rfl) (S_nil (R_yes (by kernel_rfl) (R_skip (R_seq (R_block (R_region (S_val (.slice (some ⟨g81, 0, none⟩) 2 cap82) (by kernel_rfl) (S_val (.slice (some ⟨b58, off59, none⟩) (List.length LL) capL) (by kernel_rfl) (?_))))))))))))
          have HR := hr_pos HR c87
          refine S_val (.int .i64 2) (by kernel_rfl) (?_)
          refine S_idx 24 2 b58 off59 (List.length LL) capL 2 (by omega) (by kernel_rfl) (S_loadX tE 2 tx0 2 0 b58 off59 (.agg #[.int .i64 ((gd tx0 LL 2).1), .slice ((gd tx0 LL 2).2.1) (List.length ((gd tx0 LL 2).2.2.2)) ((gd tx0 LL 2).2.2.1)]) hM86 hRL tE_len (by omega) (by kernel_rfl) (S_call (fewT (gd tx0 LL 2)) (fun r : Tx => .agg #[.int .i64 r.1, .slice r.2.1 (List.length r.2.2.2) r.2.2.1]) hM86 (c_few (gd tx0 LL 2) w84 (TxOk.stay (tx_at hT (by omega)) (St.below hM86))) (by kernel_rfl) (fun r88 h89 w90 hM91 => S_fresh (some 1) #[.int .i64 r88.1, .slice r88.2.1 (List.length r88.2.2.2) r88.2.2.1] 24 hM91 (by kernel_rfl) (fun g92 w93 hM94 => S_appN 1 0 2 cap82 1 1 24 2 32 (.agg #[.int .i64 0, .slice none 0 0]) [.int .i64 r60.1, .slice r60.2.1 (List.length r60.2.2.2) r60.2.2.1, .int .i64 r74.1, .slice r74.2.1 (List.length r74.2.2.2) r74.2.2.1] rest83 [.int .i64 r88.1, .slice r88.2.1 (List.length r88.2.2.2) r88.2.2.1] hM94 ok85 (by kernel_rfl) (by kernel_rfl) (by omega) (fun g95 cap96 rest97 w98 ok99 hM100 => S_val (.slice (some ⟨g95, 0, none⟩) 3 cap96) (by kernel_rfl) (S_nil (R_inBlock (R_region (S_val (.int .i64 2) (by kernel_rfl) (S_val (.int .i64 3) (by kernel_rfl) (S_val (.int .i64 3) (by kernel_rfl) (?_))))))))))))
          have HR := hr_lt HR h89
          refine S_nil (R_inLoop (R_seq (R_seq (R_region (S_val (.int .i64 3) (by kernel_rfl) (S_val (.slice (some ⟨b58, off59, none⟩) (List.length LL) capL) (by kernel_rfl) (S_val (.int .i64 (List.length LL : Int)) (by kernel_rfl) (?_))))))))
          refine S_dec (3 < (List.length LL : Int)) (by kernel_rfl) (fun c101 => ?_) (fun c101 => ?_)
          · refine S_val (.bool true) (by kernel_rfl) (S_val (.int .i64 3) (by kernel_rfl) (S_val (.bool true) (by kernel_rfl) (S_val (.bool true) (by kernel_rfl) (S_nil (R_yes (by kernel_rfl) (R_skip (R_seq (R_block (R_region (S_val (.slice (some ⟨g95, 0, none⟩) 3 cap96) (by kernel_rfl) (S_val (.slice (some ⟨b58, off59, none⟩) (List.length LL) capL) (by kernel_rfl) (?_))))))))))))
            have HR := hr_pos HR c101
            refine S_val (.int .i64 3) (by kernel_rfl) (?_)
            refine S_idx 24 2 b58 off59 (List.length LL) capL 3 (by omega) (by kernel_rfl) (S_loadX tE 2 tx0 3 0 b58 off59 (.agg #[.int .i64 ((gd tx0 LL 3).1), .slice ((gd tx0 LL 3).2.1) (List.length ((gd tx0 LL 3).2.2.2)) ((gd tx0 LL 3).2.2.1)]) hM100 hRL tE_len (by omega) (by kernel_rfl) (S_call (fewT (gd tx0 LL 3)) (fun r : Tx => .agg #[.int .i64 r.1, .slice r.2.1 (List.length r.2.2.2) r.2.2.1]) hM100 (c_few (gd tx0 LL 3) w98 (TxOk.stay (tx_at hT (by omega)) (St.below hM100))) (by kernel_rfl) (fun r102 h103 w104 hM105 => S_fresh (some 1) #[.int .i64 r102.1, .slice r102.2.1 (List.length r102.2.2.2) r102.2.2.1] 24 hM105 (by kernel_rfl) (fun g106 w107 hM108 => S_appN 1 0 3 cap96 1 1 24 2 32 (.agg #[.int .i64 0, .slice none 0 0]) [.int .i64 r60.1, .slice r60.2.1 (List.length r60.2.2.2) r60.2.2.1, .int .i64 r74.1, .slice r74.2.1 (List.length r74.2.2.2) r74.2.2.1, .int .i64 r88.1, .slice r88.2.1 (List.length r88.2.2.2) r88.2.2.1] rest97 [.int .i64 r102.1, .slice r102.2.1 (List.length r102.2.2.2) r102.2.2.1] hM108 ok99 (by kernel_rfl) (by kernel_rfl) (by omega) (fun g109 cap110 rest111 w112 ok113 hM114 => S_val (.slice (some ⟨g109, 0, none⟩) 4 cap110) (by kernel_rfl) (S_nil (R_inBlock (R_region (S_val (.int .i64 3) (by kernel_rfl) (S_val (.int .i64 4) (by kernel_rfl) (S_val (.int .i64 4) (by kernel_rfl) (?_))))))))))))
            have HR := hr_lt HR h103
            refine S_nil (R_inLoop (R_seq (R_seq (R_region (S_val (.int .i64 4) (by kernel_rfl) (S_val (.slice (some ⟨b58, off59, none⟩) (List.length LL) capL) (by kernel_rfl) (S_val (.int .i64 (List.length LL : Int)) (by kernel_rfl) (?_))))))))
            refine S_dec (4 < (List.length LL : Int)) (by kernel_rfl) (fun c115 => ?_) (fun c115 => ?_)
            · refine S_val (.bool true) (by kernel_rfl) (S_val (.int .i64 4) (by kernel_rfl) (S_val (.bool true) (by kernel_rfl) (S_val (.bool true) (by kernel_rfl) (S_nil (R_yes (by kernel_rfl) (R_skip (R_seq (R_block (R_region (S_val (.slice (some ⟨g109, 0, none⟩) 4 cap110) (by kernel_rfl) (S_val (.slice (some ⟨b58, off59, none⟩) (List.length LL) capL) (by kernel_rfl) (?_))))))))))))
              have HR := hr_pos HR c115
              refine S_val (.int .i64 4) (by kernel_rfl) (?_)
              refine S_idx 24 2 b58 off59 (List.length LL) capL 4 (by omega) (by kernel_rfl) (S_loadX tE 2 tx0 4 0 b58 off59 (.agg #[.int .i64 ((gd tx0 LL 4).1), .slice ((gd tx0 LL 4).2.1) (List.length ((gd tx0 LL 4).2.2.2)) ((gd tx0 LL 4).2.2.1)]) hM114 hRL tE_len (by omega) (by kernel_rfl) (S_call (fewT (gd tx0 LL 4)) (fun r : Tx => .agg #[.int .i64 r.1, .slice r.2.1 (List.length r.2.2.2) r.2.2.1]) hM114 (c_few (gd tx0 LL 4) w112 (TxOk.stay (tx_at hT (by omega)) (St.below hM114))) (by kernel_rfl) (fun r116 h117 w118 hM119 => S_fresh (some 1) #[.int .i64 r116.1, .slice r116.2.1 (List.length r116.2.2.2) r116.2.2.1] 24 hM119 (by kernel_rfl) (fun g120 w121 hM122 => S_appN 1 0 4 cap110 1 1 24 2 32 (.agg #[.int .i64 0, .slice none 0 0]) [.int .i64 r60.1, .slice r60.2.1 (List.length r60.2.2.2) r60.2.2.1, .int .i64 r74.1, .slice r74.2.1 (List.length r74.2.2.2) r74.2.2.1, .int .i64 r88.1, .slice r88.2.1 (List.length r88.2.2.2) r88.2.2.1, .int .i64 r102.1, .slice r102.2.1 (List.length r102.2.2.2) r102.2.2.1] rest111 [.int .i64 r116.1, .slice r116.2.1 (List.length r116.2.2.2) r116.2.2.1] hM122 ok113 (by kernel_rfl) (by kernel_rfl) (by omega) (fun g123 cap124 rest125 w126 ok127 hM128 => S_val (.slice (some ⟨g123, 0, none⟩) 5 cap124) (by kernel_rfl) (S_nil (R_inBlock (R_region (S_val (.int .i64 4) (by kernel_rfl) (S_val (.int .i64 5) (by kernel_rfl) (S_val (.int .i64 5) (by kernel_rfl) (?_))))))))))))
              have HR := hr_lt HR h117
              refine S_nil (R_inLoop (R_seq (R_seq (R_region (S_val (.int .i64 5) (by kernel_rfl) (S_val (.slice (some ⟨b58, off59, none⟩) (List.length LL) capL) (by kernel_rfl) (S_val (.int .i64 (List.length LL : Int)) (by kernel_rfl) (?_))))))))
              refine S_dec (5 < (List.length LL : Int)) (by kernel_rfl) (fun c129 => ?_) (fun c129 => ?_)
              · refine S_val (.bool true) (by kernel_rfl) (S_val (.int .i64 5) (by kernel_rfl) (S_val (.bool true) (by kernel_rfl) (S_val (.bool true) (by kernel_rfl) (S_nil (R_yes (by kernel_rfl) (R_skip (R_seq (R_block (R_region (S_val (.slice (some ⟨g123, 0, none⟩) 5 cap124) (by kernel_rfl) (S_val (.slice (some ⟨b58, off59, none⟩) (List.length LL) capL) (by kernel_rfl) (?_))))))))))))
                have HR := hr_pos HR c129
                refine S_val (.int .i64 5) (by kernel_rfl) (?_)
                refine S_idx 24 2 b58 off59 (List.length LL) capL 5 (by omega) (by kernel_rfl) (S_loadX tE 2 tx0 5 0 b58 off59 (.agg #[.int .i64 ((gd tx0 LL 5).1), .slice ((gd tx0 LL 5).2.1) (List.length ((gd tx0 LL 5).2.2.2)) ((gd tx0 LL 5).2.2.1)]) hM128 hRL tE_len (by omega) (by kernel_rfl) (S_call (fewT (gd tx0 LL 5)) (fun r : Tx => .agg #[.int .i64 r.1, .slice r.2.1 (List.length r.2.2.2) r.2.2.1]) hM128 (c_few (gd tx0 LL 5) w126 (TxOk.stay (tx_at hT (by omega)) (St.below hM128))) (by kernel_rfl) (fun r130 h131 w132 hM133 => S_fresh (some 1) #[.int .i64 r130.1, .slice r130.2.1 (List.length r130.2.2.2) r130.2.2.1] 24 hM133 (by kernel_rfl) (fun g134 w135 hM136 => S_appN 1 0 5 cap124 1 1 24 2 32 (.agg #[.int .i64 0, .slice none 0 0]) [.int .i64 r60.1, .slice r60.2.1 (List.length r60.2.2.2) r60.2.2.1, .int .i64 r74.1, .slice r74.2.1 (List.length r74.2.2.2) r74.2.2.1, .int .i64 r88.1, .slice r88.2.1 (List.length r88.2.2.2) r88.2.2.1, .int .i64 r102.1, .slice r102.2.1 (List.length r102.2.2.2) r102.2.2.1, .int .i64 r116.1, .slice r116.2.1 (List.length r116.2.2.2) r116.2.2.1] rest125 [.int .i64 r130.1, .slice r130.2.1 (List.length r130.2.2.2) r130.2.2.1] hM136 ok127 (by kernel_rfl) (by kernel_rfl) (by omega) (fun g137 cap138 rest139 w140 ok141 hM142 => S_val (.slice (some ⟨g137, 0, none⟩) 6 cap138) (by kernel_rfl) (S_nil (R_inBlock (R_region (S_val (.int .i64 5) (by kernel_rfl) (S_val (.int .i64 6) (by kernel_rfl) (S_val (.int .i64 6) (by kernel_rfl) (?_))))))))))))
                have HR := hr_lt HR h131
                refine S_nil (R_inLoop (R_seq (R_seq (R_region (S_val (.int .i64 6) (by kernel_rfl) (S_val (.slice (some ⟨b58, off59, none⟩) (List.length LL) capL) (by kernel_rfl) (S_val (.int .i64 (List.length LL : Int)) (by kernel_rfl) (?_))))))))
                refine S_dec (6 < (List.length LL : Int)) (by kernel_rfl) (fun c143 => ?_) (fun c143 => ?_)
                · refine S_val (.bool true) (by kernel_rfl) (S_val (.int .i64 6) (by kernel_rfl) (S_val (.bool false) (by kernel_rfl) (S_val (.bool false) (by kernel_rfl) (S_nil (R_no (by kernel_rfl) (R_exit rfl (?_)))))))
                  have HR := hr_pos HR c143
                  have hM144 := hM142.re [0, 7] (by decide) (by kernel_rfl)
                  exact hn6 _ _ ⟨[r60, r74, r88, r102, r116, r130], g137, cap138, rest139, [.int .i64 6, .int .i64 6, .slice (some ⟨b58, off59, none⟩) (List.length LL) capL, .int .i64 (List.length LL : Int), .bool true, .bool true, .int .i64 6, .bool false, .bool false, .int .i64 5, .int .i64 6, .slice (some ⟨g123, 0, none⟩) 5 cap124, .slice (some ⟨b58, off59, none⟩) (List.length LL) capL, .int .i64 5, .pointer (some ⟨b58, off59 + Int.toNat 5 * 2 + 0, none⟩), .agg #[.int .i64 ((gd tx0 LL 5).1), .slice ((gd tx0 LL 5).2.1) (List.length ((gd tx0 LL 5).2.2.2)) ((gd tx0 LL 5).2.2.1)], .agg #[.int .i64 r130.1, .slice r130.2.1 (List.length r130.2.2.2) r130.2.2.1], .slice (some ⟨g134, 0, none⟩) 1 1, .slice (some ⟨g137, 0, none⟩) 6 cap138], by kernel_rfl, hM144, (allc (few_ok (tx_at hT (by omega)) h61) (allc (few_ok (tx_at hT (by omega)) h75) (allc (few_ok (tx_at hT (by omega)) h89) (allc (few_ok (tx_at hT (by omega)) h103) (allc (few_ok (tx_at hT (by omega)) h117) (allc (few_ok (tx_at hT (by omega)) h131) all0)))))), by simp, by simp, HR⟩
                · refine S_val (.bool false) (by kernel_rfl) (S_skip (by kernel_rfl) (S_skip (by kernel_rfl) (S_val (.bool false) (by kernel_rfl) (S_nil (R_no (by kernel_rfl) (R_exit rfl (?_)))))))
                  have HR := hr_neg HR c143
                  have hM145 := hM142.re [0, 7] (by decide) (by kernel_rfl)
                  exact hn6 _ _ ⟨[r60, r74, r88, r102, r116, r130], g137, cap138, rest139, [.int .i64 6, .int .i64 6, .slice (some ⟨b58, off59, none⟩) (List.length LL) capL, .int .i64 (List.length LL : Int), .bool false, .bool false, undef, undef, .bool false, .int .i64 5, .int .i64 6, .slice (some ⟨g123, 0, none⟩) 5 cap124, .slice (some ⟨b58, off59, none⟩) (List.length LL) capL, .int .i64 5, .pointer (some ⟨b58, off59 + Int.toNat 5 * 2 + 0, none⟩), .agg #[.int .i64 ((gd tx0 LL 5).1), .slice ((gd tx0 LL 5).2.1) (List.length ((gd tx0 LL 5).2.2.2)) ((gd tx0 LL 5).2.2.1)], .agg #[.int .i64 r130.1, .slice r130.2.1 (List.length r130.2.2.2) r130.2.2.1], .slice (some ⟨g134, 0, none⟩) 1 1, .slice (some ⟨g137, 0, none⟩) 6 cap138], by kernel_rfl, hM145, (allc (few_ok (tx_at hT (by omega)) h61) (allc (few_ok (tx_at hT (by omega)) h75) (allc (few_ok (tx_at hT (by omega)) h89) (allc (few_ok (tx_at hT (by omega)) h103) (allc (few_ok (tx_at hT (by omega)) h117) (allc (few_ok (tx_at hT (by omega)) h131) all0)))))), by simp, by simp, HR⟩
              · refine S_val (.bool false) (by kernel_rfl) (S_skip (by kernel_rfl) (S_skip (by kernel_rfl) (S_val (.bool false) (by kernel_rfl) (S_nil (R_no (by kernel_rfl) (R_exit rfl (?_)))))))
                have HR := hr_neg HR c129
                have hM146 := hM128.re [0, 6] (by decide) (by kernel_rfl)
                exact hn6 _ _ ⟨[r60, r74, r88, r102, r116], g123, cap124, rest125, [.int .i64 5, .int .i64 5, .slice (some ⟨b58, off59, none⟩) (List.length LL) capL, .int .i64 (List.length LL : Int), .bool false, .bool false, undef, undef, .bool false, .int .i64 4, .int .i64 5, .slice (some ⟨g109, 0, none⟩) 4 cap110, .slice (some ⟨b58, off59, none⟩) (List.length LL) capL, .int .i64 4, .pointer (some ⟨b58, off59 + Int.toNat 4 * 2 + 0, none⟩), .agg #[.int .i64 ((gd tx0 LL 4).1), .slice ((gd tx0 LL 4).2.1) (List.length ((gd tx0 LL 4).2.2.2)) ((gd tx0 LL 4).2.2.1)], .agg #[.int .i64 r116.1, .slice r116.2.1 (List.length r116.2.2.2) r116.2.2.1], .slice (some ⟨g120, 0, none⟩) 1 1, .slice (some ⟨g123, 0, none⟩) 5 cap124], by kernel_rfl, hM146, (allc (few_ok (tx_at hT (by omega)) h61) (allc (few_ok (tx_at hT (by omega)) h75) (allc (few_ok (tx_at hT (by omega)) h89) (allc (few_ok (tx_at hT (by omega)) h103) (allc (few_ok (tx_at hT (by omega)) h117) all0))))), by simp, by simp, HR⟩
            · refine S_val (.bool false) (by kernel_rfl) (S_skip (by kernel_rfl) (S_skip (by kernel_rfl) (S_val (.bool false) (by kernel_rfl) (S_nil (R_no (by kernel_rfl) (R_exit rfl (?_)))))))
              have HR := hr_neg HR c115
              have hM147 := hM114.re [0, 5] (by decide) (by kernel_rfl)
              exact hn6 _ _ ⟨[r60, r74, r88, r102], g109, cap110, rest111, [.int .i64 4, .int .i64 4, .slice (some ⟨b58, off59, none⟩) (List.length LL) capL, .int .i64 (List.length LL : Int), .bool false, .bool false, undef, undef, .bool false, .int .i64 3, .int .i64 4, .slice (some ⟨g95, 0, none⟩) 3 cap96, .slice (some ⟨b58, off59, none⟩) (List.length LL) capL, .int .i64 3, .pointer (some ⟨b58, off59 + Int.toNat 3 * 2 + 0, none⟩), .agg #[.int .i64 ((gd tx0 LL 3).1), .slice ((gd tx0 LL 3).2.1) (List.length ((gd tx0 LL 3).2.2.2)) ((gd tx0 LL 3).2.2.1)], .agg #[.int .i64 r102.1, .slice r102.2.1 (List.length r102.2.2.2) r102.2.2.1], .slice (some ⟨g106, 0, none⟩) 1 1, .slice (some ⟨g109, 0, none⟩) 4 cap110], by kernel_rfl, hM147, (allc (few_ok (tx_at hT (by omega)) h61) (allc (few_ok (tx_at hT (by omega)) h75) (allc (few_ok (tx_at hT (by omega)) h89) (allc (few_ok (tx_at hT (by omega)) h103) all0)))), by simp, by simp, HR⟩
          · refine S_val (.bool false) (by kernel_rfl) (S_skip (by kernel_rfl) (S_skip (by kernel_rfl) (S_val (.bool false) (by kernel_rfl) (S_nil (R_no (by kernel_rfl) (R_exit rfl (?_)))))))
            have HR := hr_neg HR c101
            have hM148 := hM100.re [0, 4] (by decide) (by kernel_rfl)
            exact hn6 _ _ ⟨[r60, r74, r88], g95, cap96, rest97, [.int .i64 3, .int .i64 3, .slice (some ⟨b58, off59, none⟩) (List.length LL) capL, .int .i64 (List.length LL : Int), .bool false, .bool false, undef, undef, .bool false, .int .i64 2, .int .i64 3, .slice (some ⟨g81, 0, none⟩) 2 cap82, .slice (some ⟨b58, off59, none⟩) (List.length LL) capL, .int .i64 2, .pointer (some ⟨b58, off59 + Int.toNat 2 * 2 + 0, none⟩), .agg #[.int .i64 ((gd tx0 LL 2).1), .slice ((gd tx0 LL 2).2.1) (List.length ((gd tx0 LL 2).2.2.2)) ((gd tx0 LL 2).2.2.1)], .agg #[.int .i64 r88.1, .slice r88.2.1 (List.length r88.2.2.2) r88.2.2.1], .slice (some ⟨g92, 0, none⟩) 1 1, .slice (some ⟨g95, 0, none⟩) 3 cap96], by kernel_rfl, hM148, (allc (few_ok (tx_at hT (by omega)) h61) (allc (few_ok (tx_at hT (by omega)) h75) (allc (few_ok (tx_at hT (by omega)) h89) all0))), by simp, by simp, HR⟩
        · refine S_val (.bool false) (by kernel_rfl) (S_skip (by kernel_rfl) (S_skip (by kernel_rfl) (S_val (.bool false) (by kernel_rfl) (S_nil (R_no (by kernel_rfl) (R_exit rfl (?_)))))))
          have HR := hr_neg HR c87
          have hM149 := hM86.re [0, 3] (by decide) (by kernel_rfl)
          exact hn6 _ _ ⟨[r60, r74], g81, cap82, rest83, [.int .i64 2, .int .i64 2, .slice (some ⟨b58, off59, none⟩) (List.length LL) capL, .int .i64 (List.length LL : Int), .bool false, .bool false, undef, undef, .bool false, .int .i64 1, .int .i64 2, .slice (some ⟨g67, 0, none⟩) 1 cap68, .slice (some ⟨b58, off59, none⟩) (List.length LL) capL, .int .i64 1, .pointer (some ⟨b58, off59 + Int.toNat 1 * 2 + 0, none⟩), .agg #[.int .i64 ((gd tx0 LL 1).1), .slice ((gd tx0 LL 1).2.1) (List.length ((gd tx0 LL 1).2.2.2)) ((gd tx0 LL 1).2.2.1)], .agg #[.int .i64 r74.1, .slice r74.2.1 (List.length r74.2.2.2) r74.2.2.1], .slice (some ⟨g78, 0, none⟩) 1 1, .slice (some ⟨g81, 0, none⟩) 2 cap82], by kernel_rfl, hM149, (allc (few_ok (tx_at hT (by omega)) h61) (allc (few_ok (tx_at hT (by omega)) h75) all0)), by simp, by simp, HR⟩
      · refine S_val (.bool false) (by kernel_rfl) (S_skip (by kernel_rfl) (S_skip (by kernel_rfl) (S_val (.bool false) (by kernel_rfl) (S_nil (R_no (by kernel_rfl) (R_exit rfl (?_)))))))
        have HR := hr_neg HR c73
        have hM150 := hM72.re [0, 2] (by decide) (by kernel_rfl)
        exact hn6 _ _ ⟨[r60], g67, cap68, rest69, [.int .i64 1, .int .i64 1, .slice (some ⟨b58, off59, none⟩) (List.length LL) capL, .int .i64 (List.length LL : Int), .bool false, .bool false, undef, undef, .bool false, .int .i64 0, .int .i64 1, .slice none 0 0, .slice (some ⟨b58, off59, none⟩) (List.length LL) capL, .int .i64 0, .pointer (some ⟨b58, off59 + Int.toNat 0 * 2 + 0, none⟩), .agg #[.int .i64 ((gd tx0 LL 0).1), .slice ((gd tx0 LL 0).2.1) (List.length ((gd tx0 LL 0).2.2.2)) ((gd tx0 LL 0).2.2.1)], .agg #[.int .i64 r60.1, .slice r60.2.1 (List.length r60.2.2.2) r60.2.2.1], .slice (some ⟨g64, 0, none⟩) 1 1, .slice (some ⟨g67, 0, none⟩) 1 cap68], by kernel_rfl, hM150, (allc (few_ok (tx_at hT (by omega)) h61) all0), by simp, by simp, HR⟩
    · refine S_val (.bool false) (by kernel_rfl) (S_skip (by kernel_rfl) (S_skip (by kernel_rfl) (S_val (.bool false) (by kernel_rfl) (S_nil (R_no (by kernel_rfl) (R_exit rfl (R_seq (R_region (S_val (.slice none 0 0) (by kernel_rfl) (S_val (.pointer (some ⟨g1, 13, none⟩)) (by kernel_rfl) (S_load 0 13 (.int .i64 p.2.2.2) hM3 (by kernel_rfl) (?_))))))))))))
      have HR := hr_neg HR c57
      refine S_call (()) (fun r : Unit => .tuple #[.agg #[.int .i64 0, .slice none 0 0], .bool false]) hM3 (w_texel_Pick_0 p.2.2.2 none 0 w2) (by kernel_rfl) (fun r151 h152 w153 hM154 => S_val (.tuple #[.agg #[.int .i64 0, .slice none 0 0], .bool false]) (by kernel_rfl) (S_val (.agg #[.int .i64 0, .slice none 0 0]) (by kernel_rfl) (S_val (.bool false) (by kernel_rfl) (S_fresh none #[.int .i64 0, .slice none 0 0] 24 hM154 (by kernel_rfl) (fun g155 w156 hM157 => S_store 0 0 #[.int .i64 0, .slice none 0 0] hM157 (by kernel_rfl) (fun w158 hM159 => S_val (.bool false) (by kernel_rfl) (S_nil (R_seq (R_seq (R_drawF 23 (by kernel_rfl) (fun F160 U161 hL162 => F_val (.bool false) (fun _ => by kernel_rfl) (?_))))))))))))
      have HR := hr_lt HR h152
      refine F_val (.slice none 0 0) (fun _ => by kernel_rfl) (F_val (.int .i64 0) (fun _ => by kernel_rfl) (F_val (.bool false) (fun _ => by kernel_rfl) (F_val (.bool false) (fun _ => by kernel_rfl) (F_val (.bool false) (fun _ => by kernel_rfl) (F_val (.bool false) (fun _ => by kernel_rfl) (F_val (.bool false) (fun _ => by kernel_rfl) (F_skip (by kernel_rfl) (F_skip (by kernel_rfl) (F_skip (by kernel_rfl) (F_skip (by kernel_rfl) (F_skip (by kernel_rfl) (?_))))))))))))
      refine F_skip (by kernel_rfl) (F_skip (by kernel_rfl) (F_skip (by kernel_rfl) (F_skip (by kernel_rfl) (F_skip (by kernel_rfl) (F_skip (by kernel_rfl) (F_skip (by kernel_rfl) (F_skip (by kernel_rfl) (F_val (.bool false) (fun _ => by kernel_rfl) (F_val (.bool false) (fun _ => by kernel_rfl) (F_nil hM159 hL162 (fun w163 hM164 => S_nil (?_))))))))))))
      refine R_no (by kernel_rfl) (R_skip (R_seq (R_drawF 25 (by kernel_rfl) (fun F165 U166 hL167 => F_val (.pointer (some ⟨g1, 0, none⟩)) (fun _ => by kernel_rfl) (F_load 1 0 (.agg #[.int .i64 p.1.1, .int .i64 p.1.2.1, .int .i64 p.1.2.2]) hM164 (by kernel_rfl) (F_val (.slice none 0 0) (fun _ => by kernel_rfl) (F_val (.pointer (some ⟨g1, 3, none⟩)) (fun _ => by kernel_rfl) (F_load 1 3 (.agg #[.int .i64 p.2.1.1.1, .int .i64 p.2.1.1.2, .int .i64 p.2.1.2.1.1, .int .i64 p.2.1.2.1.2, .int .i64 p.2.1.2.2.1, .int .i64 p.2.1.2.2.2]) hM164 (by kernel_rfl) (F_val (.pointer (some ⟨g1, 9, none⟩)) (fun _ => by kernel_rfl) (F_load 1 9 (.agg #[.int .i64 p.2.2.1.1, .int .i64 p.2.2.1.2.1, .int .i64 p.2.2.1.2.2.1, .int .i64 p.2.2.1.2.2.2]) hM164 (by kernel_rfl) (F_val (.pointer (some ⟨g1, 13, none⟩)) (fun _ => by kernel_rfl) (?_))))))))))))
      refine F_load 1 13 (.int .i64 p.2.2.2) hM164 (by kernel_rfl) (F_call (s_texel_Surface_0 p.1 p.2.1 p.2.2.1 p.2.2.2) (fun r : Int × Int × Int => .agg #[.int .i64 r.1, .int .i64 r.2.1, .int .i64 r.2.2]) hM164 hL167 (fun w' hM' => w_texel_Surface_0 p.1 p.2.1 p.2.2.1 p.2.2.2 h_p.1 h_p.2.1 h_p.2.2.1 h_p.2.2.2 none 0 w') (by kernel_rfl) (fun _ => by kernel_rfl) (fun r168 h169 => F_val (.pointer (some ⟨g1, 0, none⟩)) (fun _ => by kernel_rfl) (F_load 1 0 (.agg #[.int .i64 p.1.1, .int .i64 p.1.2.1, .int .i64 p.1.2.2]) hM164 (by kernel_rfl) (F_val (.slice none 0 0) (fun _ => by kernel_rfl) (F_val (.pointer (some ⟨g1, 3, none⟩)) (fun _ => by kernel_rfl) (F_load 1 3 (.agg #[.int .i64 p.2.1.1.1, .int .i64 p.2.1.1.2, .int .i64 p.2.1.2.1.1, .int .i64 p.2.1.2.1.2, .int .i64 p.2.1.2.2.1, .int .i64 p.2.1.2.2.2]) hM164 (by kernel_rfl) (F_val (.pointer (some ⟨g1, 9, none⟩)) (fun _ => by kernel_rfl) (F_load 1 9 (.agg #[.int .i64 p.2.2.1.1, .int .i64 p.2.2.1.2.1, .int .i64 p.2.2.1.2.2.1, .int .i64 p.2.2.1.2.2.2]) hM164 (by kernel_rfl) (F_val (.pointer (some ⟨g1, 13, none⟩)) (fun _ => by kernel_rfl) (F_load 1 13 (.int .i64 p.2.2.2) hM164 (by kernel_rfl) (F_call (s_umbraref25_Surface_0 p.1 p.2.1 p.2.2.1 p.2.2.2) (fun r : Int × Int × Int => .agg #[.int .i64 r.1, .int .i64 r.2.1, .int .i64 r.2.2]) hM164 hL167 (fun w' hM' => w_umbraref25_Surface_0 p.1 p.2.1 p.2.2.1 p.2.2.2 h_p.1 h_p.2.1 h_p.2.2.1 h_p.2.2.2 none 0 w') (by kernel_rfl) (fun _ => by kernel_rfl) (fun r170 h171 => ?_))))))))))))
      have HR := hr_lt HR h169
      have HR := hr_lt HR h171
      refine F_dec ((r168 : Int × Int × Int) = r170) (fun _ => eqv_umbra_api_Vec (x := r168) (y := r170) (by kernel_rfl) (by kernel_rfl) (by kernel_rfl)) (fun c172 => ?_) (fun c172 => ?_)
      · refine F_val (.bool true) (fun _ => by kernel_rfl) (F_call (s_umbralaw25_works ) (fun r : Bool => .bool r) hM164 hL167 (fun w' hM' => w_umbralaw25_works  w') (by kernel_rfl) (fun _ => by kernel_rfl) (fun r173 h174 => ?_))
        have HR := hr_pos HR c172
        have HR := hr_lt HR h174
        cases r173
        · refine F_val (.bool false) (fun _ => by kernel_rfl) (F_val (.bool false) (fun _ => by kernel_rfl) (F_nil hM164 hL167 (fun w175 hM176 => S_nil (?_))))
          have HR := hr_neg HR Bool.false_ne_true
          refine R_ret hM176 rfl (.cons (.tmp _ (.bool false) (by kernel_rfl)) .nil) rfl ?_
          exact ⟨congrArg Ending.returned HR, hM176.below⟩
        · refine F_val (.bool true) (fun _ => by kernel_rfl) (F_val (.bool true) (fun _ => by kernel_rfl) (F_nil hM164 hL167 (fun w177 hM178 => S_nil (?_))))
          have HR := hr_pos HR rfl
          refine R_ret hM178 rfl (.cons (.tmp _ (.bool true) (by kernel_rfl)) .nil) rfl ?_
          exact ⟨congrArg Ending.returned HR, hM178.below⟩
      · refine F_val (.bool false) (fun _ => by kernel_rfl) (F_skip (by kernel_rfl) (F_val (.bool false) (fun _ => by kernel_rfl) (F_val (.bool false) (fun _ => by kernel_rfl) (F_nil hM164 hL167 (fun w180 hM181 => S_nil (?_))))))
        have HR := hr_neg HR c172
        refine R_ret hM181 rfl (.cons (.tmp _ (.bool false) (by kernel_rfl)) .nil) rfl ?_
        exact ⟨congrArg Ending.returned HR, hM181.below⟩

end Go.Proofs.Ytognbeejobfpfaa
