/- Walks: the document's answer for layer 3: Add, Times. -/
import Derived.Test.YtenefncpokdmnaaRef3A
import Derived.Deep.LoopGhost
namespace Go.Proofs.Ytenefncpokdmnaa
open Go.RowKit Go.Sort
set_option linter.unusedVariables false
set_option linter.unusedSimpArgs false

set_option maxRecDepth 100000 in
set_option maxHeartbeats 1600000 in
theorem r3Add_ne (b off n cap : Nat) (l : List T3) (hn : n = l.length) (hl : l.length ≤ 1000000) (hI : ∀ x ∈ l, InV x) (w : World) (hb : b < w.heap.size) (hc : CellsV w b off l) :
    Calls Try.prog 59 #[.slice (some ⟨b, off, none⟩) n cap] w (Ret (V3 (sumT l).1 (sumT l).2.1 (sumT l).2.2) w) := by
  obtain rfl := hn
  obtain ⟨N, hN⟩ : ∃ N, N = l.length := ⟨_, rfl⟩
  have HN := Lib.hid hN
  have HC := Lib.hid hc
  have HW := Lib.hid hI
  have H0 : Hid (l.foldl vadd zero3 = sumT l) := Lib.hid rfl
  rw [← hN] at hl ⊢
  clear hN hc hI
  go_enter Try.func59, Try.ntmps59
  go_wp2_with fail
  go_loopw [4] (fun i wr => ∃ (k : Nat) (s : T3), k ≤ N ∧ i = .int .i64 k ∧ InV s ∧ (l.drop k).foldl vadd s = sumT l ∧ Below w.heap.size w wr ∧ Holds3 wr (w.heap.size + 1) s ∧ Holds3 wr w.heap.size zero3) (fun i _ => N - (intOf i).toNat)
  case atStart => exact ⟨0, zero3, by omega, rfl, zero3_I, H0.out, by go_grown, Holds3.new _ 0 0 0 _ _ (by simp), (Holds3.new _ 0 0 0 _ _ rfl).more _⟩
  case round =>
    obtain ⟨k, s, hk, rfl, hs, hsum, hB, hh1, hh0⟩ := hrel
    by_cases hlt : k < N
    · have hkl : k < l.length := by rw [← HN.out]; exact hlt
      obtain ⟨x, hx⟩ : ∃ x, l[k] = x := ⟨_, rfl⟩
      have hxI : InV x := by rw [← hx]; exact HW.out _ (List.getElem_mem hkl)
      have HY := Lib.hid (foldV_step (f := vadd) (s := s) hkl)
      rw [hsum, hx] at HY
      obtain ⟨q0, q1, q2⟩ := (HC.out).call hB k hkl
      rw [hx] at q0 q1 q2
      have HH1 := Lib.hid hh1
      have HH0 := Lib.hid hh0
      obtain ⟨p0, p1, p2, -, -, -⟩ := hh1
      obtain ⟨hs0, hs1, hs2⟩ := hs
      obtain ⟨hx0, hx1, hx2⟩ := hxI
      have c0 := reg_cell q0
      have c1 := reg_cell q1
      have c2 := reg_cell q2
      have c3 := reg_cell p0
      have c4 := reg_cell p1
      have c5 := reg_cell p2
      clear hx hsum hkl hh0 p0 p1 p2 q0 q1 q2
      go_wp2_with fail
      refine wp_region_below_tail 6 (by kernel_rfl) (by kernel_rfl) ?_
      simp only [List.take_succ_cons, List.take_zero, List.drop_succ_cons, List.drop_zero]
      repeat (quiet_step ((go_at_call 92; exact reg_ret (r3Two _ _ _ _ _ _ (by assumption) (by assumption) (by assumption) (by assumption) (by assumption) (by assumption) _))))
      refine wpQuiet_nil ?_
      intro w1 hw1
      have hb1 := reg_below hw1
      clear hw1 c0 c1 c2 c3 c4 c5
      have hB1 : Below w.heap.size w w1 := Below.next hB hb1
      have hS1 := hB1.size
      have g1 := (HH1.out).call hb1
      have G0 := Lib.hid ((HH0.out).call hb1)
      have G1 := Lib.hid g1
      obtain ⟨r0, r1, r2, t0, t1, t2⟩ := g1
      clear hb1 hB
      go_wp2_with fail
      go_roundw
      case rel => exact ⟨k + 1, vadd s x, by omega, by go_num, vadd_I _ _, HY.out.symm, by go_grown, (G1.out).put (vadd s x), (G0.out).other (by omega) _ _ _⟩
      case measure => simp [intOf] <;> omega
    · obtain rfl : k = N := by omega
      have HE : Hid (sumT l = s) := Lib.hid (by rw [← hsum, HN.out, List.drop_length]; rfl)
      clear hsum
      have hlt1 := hh1.lt
      have hS := hB.size
      obtain ⟨p0, p1, p2, -, -, -⟩ := hh1
      obtain ⟨r0, r1, r2, t0, t1, t2⟩ := hh0
      go_wp2_with fail
      rw [HE.out]
      exact bodyPost_ret (v := V3 s.1 s.2.1 s.2.2) (by simp (maxDischargeDepth := 9) [results, Try.results59, go_sem, r0, r1, r2]) rfl ⟨rfl, by go_grown⟩

set_option maxRecDepth 100000 in
set_option maxHeartbeats 1600000 in
theorem r3Times_ne (b off n cap : Nat) (l : List T3) (hn : n = l.length) (hl : l.length ≤ 1000000) (hI : ∀ x ∈ l, InV x) (w : World) (hb : b < w.heap.size) (hc : CellsV w b off l) :
    Calls Try.prog 61 #[.slice (some ⟨b, off, none⟩) n cap] w (Ret (V3 (mulT l).1 (mulT l).2.1 (mulT l).2.2) w) := by
  obtain rfl := hn
  obtain ⟨N, hN⟩ : ∃ N, N = l.length := ⟨_, rfl⟩
  have HN := Lib.hid hN
  have HC := Lib.hid hc
  have HW := Lib.hid hI
  have H0 : Hid (l.foldl vmul one3 = mulT l) := Lib.hid rfl
  rw [← hN] at hl ⊢
  clear hN hc hI
  go_enter Try.func61, Try.ntmps61
  go_wp2_with fail
  go_loopw [4] (fun i wr => ∃ (k : Nat) (s : T3), k ≤ N ∧ i = .int .i64 k ∧ InV s ∧ (l.drop k).foldl vmul s = mulT l ∧ Below w.heap.size w wr ∧ Holds3 wr (w.heap.size + 1) s ∧ Holds3 wr w.heap.size zero3) (fun i _ => N - (intOf i).toNat)
  case atStart => exact ⟨0, one3, by omega, rfl, one3_I, H0.out, by go_grown, Holds3.new _ 4294967296 4294967296 4294967296 _ _ (by simp), (Holds3.new _ 0 0 0 _ _ rfl).more _⟩
  case round =>
    obtain ⟨k, s, hk, rfl, hs, hsum, hB, hh1, hh0⟩ := hrel
    by_cases hlt : k < N
    · have hkl : k < l.length := by rw [← HN.out]; exact hlt
      obtain ⟨x, hx⟩ : ∃ x, l[k] = x := ⟨_, rfl⟩
      have hxI : InV x := by rw [← hx]; exact HW.out _ (List.getElem_mem hkl)
      have HY := Lib.hid (foldV_step (f := vmul) (s := s) hkl)
      rw [hsum, hx] at HY
      obtain ⟨q0, q1, q2⟩ := (HC.out).call hB k hkl
      rw [hx] at q0 q1 q2
      have HH1 := Lib.hid hh1
      have HH0 := Lib.hid hh0
      obtain ⟨p0, p1, p2, -, -, -⟩ := hh1
      obtain ⟨hs0, hs1, hs2⟩ := hs
      obtain ⟨hx0, hx1, hx2⟩ := hxI
      have c0 := reg_cell q0
      have c1 := reg_cell q1
      have c2 := reg_cell q2
      have c3 := reg_cell p0
      have c4 := reg_cell p1
      have c5 := reg_cell p2
      clear hx hsum hkl hh0 p0 p1 p2 q0 q1 q2
      go_wp2_with fail
      refine wp_region_below_tail 6 (by kernel_rfl) (by kernel_rfl) ?_
      simp only [List.take_succ_cons, List.take_zero, List.drop_succ_cons, List.drop_zero]
      repeat (quiet_step ((go_at_call 94; exact reg_ret (r3Both _ _ _ _ _ _ (by assumption) (by assumption) (by assumption) (by assumption) (by assumption) (by assumption) _))))
      refine wpQuiet_nil ?_
      intro w1 hw1
      have hb1 := reg_below hw1
      clear hw1 c0 c1 c2 c3 c4 c5
      have hB1 : Below w.heap.size w w1 := Below.next hB hb1
      have hS1 := hB1.size
      have g1 := (HH1.out).call hb1
      have G0 := Lib.hid ((HH0.out).call hb1)
      have G1 := Lib.hid g1
      obtain ⟨r0, r1, r2, t0, t1, t2⟩ := g1
      clear hb1 hB
      go_wp2_with fail
      go_roundw
      case rel => exact ⟨k + 1, vmul s x, by omega, by go_num, vmul_I _ _, HY.out.symm, by go_grown, (G1.out).put (vmul s x), (G0.out).other (by omega) _ _ _⟩
      case measure => simp [intOf] <;> omega
    · obtain rfl : k = N := by omega
      have HE : Hid (mulT l = s) := Lib.hid (by rw [← hsum, HN.out, List.drop_length]; rfl)
      clear hsum
      have hlt1 := hh1.lt
      have hS := hB.size
      obtain ⟨p0, p1, p2, -, -, -⟩ := hh1
      obtain ⟨r0, r1, r2, t0, t1, t2⟩ := hh0
      go_wp2_with fail
      rw [HE.out]
      exact bodyPost_ret (v := V3 s.1 s.2.1 s.2.2) (by simp (maxDischargeDepth := 9) [results, Try.results61, go_sem, r0, r1, r2]) rfl ⟨rfl, by go_grown⟩

theorem r3Add_zero (A : Option Addr) (cap : Nat) (w : World) : Calls Try.prog 59 #[.slice A 0 cap] w (Ret (V3 0 0 0) w) := by
  go_enter Try.func59, Try.ntmps59
  go_wp2_with fail
  refine wp_loop_rounds 1 ?_
  rw [rounds_succ]
  go_wp2
  exact bodyPost_ret (v := V3 0 0 0) (by simp (maxDischargeDepth := 9) [results, Try.results59, go_sem]) rfl ⟨rfl, by go_grown⟩
theorem r3Add (A : Option Addr) (n cap : Nat) (l : List T3) (w : World) (hr : RdV w A n l) (hl : l.length ≤ 1000000) (hI : ∀ x ∈ l, InV x) :
    Calls Try.prog 59 #[.slice A n cap] w (Ret (V3 (sumT l).1 (sumT l).2.1 (sumT l).2.2) w) := by
  obtain ⟨rfl, h⟩ := hr
  by_cases h0 : l = []
  · subst h0
    exact r3Add_zero A cap w
  · rcases h with rfl | ⟨b, off, rfl, hc⟩
    · exact absurd rfl h0
    · exact r3Add_ne b off _ cap l rfl hl hI w (hc.lt h0) hc

theorem r3Times_zero (A : Option Addr) (cap : Nat) (w : World) : Calls Try.prog 61 #[.slice A 0 cap] w (Ret (V3 4294967296 4294967296 4294967296) w) := by
  go_enter Try.func61, Try.ntmps61
  go_wp2_with fail
  refine wp_loop_rounds 1 ?_
  rw [rounds_succ]
  go_wp2
  exact bodyPost_ret (v := V3 4294967296 4294967296 4294967296) (by simp (maxDischargeDepth := 9) [results, Try.results61, go_sem]) rfl ⟨rfl, by go_grown⟩
theorem r3Times (A : Option Addr) (n cap : Nat) (l : List T3) (w : World) (hr : RdV w A n l) (hl : l.length ≤ 1000000) (hI : ∀ x ∈ l, InV x) :
    Calls Try.prog 61 #[.slice A n cap] w (Ret (V3 (mulT l).1 (mulT l).2.1 (mulT l).2.2) w) := by
  obtain ⟨rfl, h⟩ := hr
  by_cases h0 : l = []
  · subst h0
    exact r3Times_zero A cap w
  · rcases h with rfl | ⟨b, off, rfl, hc⟩
    · exact absurd rfl h0
    · exact r3Times_ne b off _ cap l rfl hl hI w (hc.lt h0) hc

end Go.Proofs.Ytenefncpokdmnaa
