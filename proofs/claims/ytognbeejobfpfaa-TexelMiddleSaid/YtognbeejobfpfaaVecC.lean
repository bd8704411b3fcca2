/- Walks: vec.Add, vec.Times. -/
import Derived.Test.YtognbeejobfpfaaVecA
import Derived.Test.YtognbeejobfpfaaVecM
import Derived.Test.YtognbeejobfpfaaFix1
import Derived.Deep.LoopGhost
namespace Go.Proofs.Ytognbeejobfpfaa
open Go.RowKit Go.Sort
set_option linter.unusedVariables false
set_option linter.unusedSimpArgs false

theorem vAdd1 (a b : Int) (ha : InI a) (hb : InI b) (w : World) : Calls Try.prog 97 #[.int .i64 a, .int .i64 b] w (Ret (.int .i64 (satAdd a b)) w) := by
  go_enter Try.func97, Try.ntmps97
  go_wp2_with fail
  refine (fAdd2 a b ha hb _ _ _ (by simp) (by simp)).mono ?_; rintro e w3 ⟨rfl, rfl⟩
  go_wp2_with fail
  go_ret
  exact ret_of rfl (by go_grown)

theorem vTimes1 (a b : Int) (ha : InI a) (hb : InI b) (w : World) : Calls Try.prog 94 #[.int .i64 a, .int .i64 b] w (Ret (.int .i64 (fmul a b)) w) := by
  go_enter Try.func94, Try.ntmps94
  go_wp2_with fail
  refine (fMul2 a b ha hb _ _ _ (by simp) (by simp)).mono ?_; rintro e w3 ⟨rfl, hb1⟩
  obtain ⟨hB1, hS1⟩ : Below w.heap.size w w3 ∧ w.heap.size ≤ w3.heap.size := Below.step (by go_grown) hb1
  go_wp2_with fail
  go_ret
  exact ret_of rfl hB1

theorem vEachAdd (a b : T3) (ha : InV a) (hb : InV b) (w : World) :
    Calls Try.prog 93 #[V3 a.1 a.2.1 a.2.2, V3 b.1 b.2.1 b.2.2, .func (.func 97) #[] #[]] w (Ret (V3 (vadd a b).1 (vadd a b).2.1 (vadd a b).2.2) w) :=
  vEach 97 #[] satAdd a.1 a.2.1 a.2.2 b.1 b.2.1 b.2.2 w (enters_of Try.func97 (by kernel_rfl) rfl)
    (fun w' _ => vAdd1 _ _ ha.1 hb.1 w') (fun w' _ => vAdd1 _ _ ha.2.1 hb.2.1 w') (fun w' _ => vAdd1 _ _ ha.2.2 hb.2.2 w')

theorem vEachTimes (a b : T3) (ha : InV a) (hb : InV b) (w : World) :
    Calls Try.prog 93 #[V3 a.1 a.2.1 a.2.2, V3 b.1 b.2.1 b.2.2, .func (.func 94) #[] #[]] w (Ret (V3 (vmul a b).1 (vmul a b).2.1 (vmul a b).2.2) w) :=
  vEach 94 #[] fmul a.1 a.2.1 a.2.2 b.1 b.2.1 b.2.2 w (enters_of Try.func94 (by kernel_rfl) rfl)
    (fun w' _ => vTimes1 _ _ ha.1 hb.1 w') (fun w' _ => vTimes1 _ _ ha.2.1 hb.2.1 w') (fun w' _ => vTimes1 _ _ ha.2.2 hb.2.2 w')

set_option maxRecDepth 100000 in
set_option maxHeartbeats 1600000 in
theorem vAdd_ne (b off n cap : Nat) (l : List T3) (hn : n = l.length) (hl : l.length ≤ 1000000) (hI : ∀ x ∈ l, InV x) (w : World) (hb : b < w.heap.size) (hc : CellsV w b off l) :
    Calls Try.prog 69 #[.slice (some ⟨b, off, none⟩) n cap] w (Ret (V3 (sumT l).1 (sumT l).2.1 (sumT l).2.2) w) := by
  obtain rfl := hn
  obtain ⟨N, hN⟩ : ∃ N, N = l.length := ⟨_, rfl⟩
  have HN := Lib.hid hN
  have HC := Lib.hid hc
  have HW := Lib.hid hI
  have H0 : Hid (l.foldl vadd zero3 = sumT l) := Lib.hid rfl
  rw [← hN] at hl ⊢
  clear hN hc hI
  go_enter Try.func69, Try.ntmps69
  go_wp2_with fail
  go_loopw [8] (fun i wr => ∃ (k : Nat) (s : T3), k ≤ N ∧ i = .int .i64 k ∧ InV s ∧ (l.drop k).foldl vadd s = sumT l ∧ Below w.heap.size w wr ∧ Holds3 wr (w.heap.size + 1) s ∧ Holds3 wr w.heap.size zero3) (fun i _ => N - (intOf i).toNat)
  case atStart => exact ⟨0, zero3, by omega, rfl, zero3_I, H0.out, by go_grown, Holds3.new _ 0 0 0 _ _ (by simp), (Holds3.new _ 0 0 0 _ _ rfl).more _⟩
  case round =>
    obtain ⟨k, s, hk, rfl, hs, hsum, hB, hh1, hh0⟩ := hrel
    by_cases hlt : k < N
    · have hkl : k < l.length := by rw [← HN.out]; exact hlt
      obtain ⟨x, hx⟩ : ∃ x, l[k] = x := ⟨_, rfl⟩
      have hxI : InV x := by rw [← hx]; exact HW.out _ (List.getElem_mem hkl)
      have HY := Lib.hid (foldV_step (f := vadd) (s := s) hkl)
      rw [hsum, hx] at HY
      obtain ⟨q0, q1, q2⟩ := (HC.out).call hB k hkl
      rw [hx] at q0 q1 q2
      have HH1 := Lib.hid hh1
      have HH0 := Lib.hid hh0
      have hlt1 := hh1.lt
      obtain ⟨p0, p1, p2, -, -, -⟩ := hh1
      have hS := hB.size
      clear hx hsum hkl hh0
      go_wp2_with fail
      refine (vEachAdd s x hs hxI _).mono ?_; rintro e w1 ⟨rfl, hb1⟩
      have hB1 : Below w.heap.size w w1 := Below.next (by go_grown) hb1
      have hS1 := hB1.size
      have g1 := ((HH1.out).more _).call hb1
      have G0 := Lib.hid (((HH0.out).more _).call hb1)
      have G1 := Lib.hid g1
      obtain ⟨r0, r1, r2, t0, t1, t2⟩ := g1
      clear p0 p1 p2 q0 q1 q2 hb1 hB hlt1
      go_wp2_with fail
      go_roundw
      case rel => exact ⟨k + 1, vadd s x, by omega, by go_num, vadd_I _ _, HY.out.symm, by go_grown, (G1.out).put _, (G0.out).other (by omega) _ _ _⟩
      case measure => simp [intOf] <;> omega
    · obtain rfl : k = N := by omega
      have HE : Hid (sumT l = s) := Lib.hid (by rw [← hsum, HN.out, List.drop_length]; rfl)
      clear hsum
      have hlt1 := hh1.lt
      have hS := hB.size
      obtain ⟨p0, p1, p2, -, -, -⟩ := hh1
      obtain ⟨r0, r1, r2, t0, t1, t2⟩ := hh0
      go_wp2_with fail
      rw [HE.out]
      exact bodyPost_ret (v := V3 s.1 s.2.1 s.2.2) (by simp (maxDischargeDepth := 9) [results, Try.results69, go_sem, r0, r1, r2]) rfl ⟨rfl, by go_grown⟩

set_option maxRecDepth 100000 in
set_option maxHeartbeats 1600000 in
theorem vTimes_ne (b off n cap : Nat) (l : List T3) (hn : n = l.length) (hl : l.length ≤ 1000000) (hI : ∀ x ∈ l, InV x) (w : World) (hb : b < w.heap.size) (hc : CellsV w b off l) :
    Calls Try.prog 61 #[.slice (some ⟨b, off, none⟩) n cap] w (Ret (V3 (mulT l).1 (mulT l).2.1 (mulT l).2.2) w) := by
  obtain rfl := hn
  obtain ⟨N, hN⟩ : ∃ N, N = l.length := ⟨_, rfl⟩
  have HN := Lib.hid hN
  have HC := Lib.hid hc
  have HW := Lib.hid hI
  have H0 : Hid (l.foldl vmul one3 = mulT l) := Lib.hid rfl
  rw [← hN] at hl ⊢
  clear hN hc hI
  go_enter Try.func61, Try.ntmps61
  go_wp2_with fail
  go_loopw [9] (fun i wr => ∃ (k : Nat) (s : T3), k ≤ N ∧ i = .int .i64 k ∧ InV s ∧ (l.drop k).foldl vmul s = mulT l ∧ Below w.heap.size w wr ∧ Holds3 wr (w.heap.size + 1) s ∧ Holds3 wr w.heap.size zero3) (fun i _ => N - (intOf i).toNat)
  case atStart => exact ⟨0, one3, by omega, rfl, one3_I, H0.out, by go_grown, Holds3.new _ 4294967296 4294967296 4294967296 _ _ (by simp), (Holds3.new _ 0 0 0 _ _ rfl).more _⟩
  case round =>
    obtain ⟨k, s, hk, rfl, hs, hsum, hB, hh1, hh0⟩ := hrel
    by_cases hlt : k < N
    · have hkl : k < l.length := by rw [← HN.out]; exact hlt
      obtain ⟨x, hx⟩ : ∃ x, l[k] = x := ⟨_, rfl⟩
      have hxI : InV x := by rw [← hx]; exact HW.out _ (List.getElem_mem hkl)
      have HY := Lib.hid (foldV_step (f := vmul) (s := s) hkl)
      rw [hsum, hx] at HY
      obtain ⟨q0, q1, q2⟩ := (HC.out).call hB k hkl
      rw [hx] at q0 q1 q2
      have HH1 := Lib.hid hh1
      have HH0 := Lib.hid hh0
      have hlt1 := hh1.lt
      obtain ⟨p0, p1, p2, -, -, -⟩ := hh1
      have hS := hB.size
      clear hx hsum hkl hh0
      go_wp2_with fail
      refine (vEachTimes s x hs hxI _).mono ?_; rintro e w1 ⟨rfl, hb1⟩
      have hB1 : Below w.heap.size w w1 := Below.next (by go_grown) hb1
      have hS1 := hB1.size
      have g1 := ((HH1.out).more _).call hb1
      have G0 := Lib.hid (((HH0.out).more _).call hb1)
      have G1 := Lib.hid g1
      obtain ⟨r0, r1, r2, t0, t1, t2⟩ := g1
      clear p0 p1 p2 q0 q1 q2 hb1 hB hlt1
      go_wp2_with fail
      go_roundw
      case rel => exact ⟨k + 1, vmul s x, by omega, by go_num, vmul_I _ _, HY.out.symm, by go_grown, (G1.out).put _, (G0.out).other (by omega) _ _ _⟩
      case measure => simp [intOf] <;> omega
    · obtain rfl : k = N := by omega
      have HE : Hid (mulT l = s) := Lib.hid (by rw [← hsum, HN.out, List.drop_length]; rfl)
      clear hsum
      have hlt1 := hh1.lt
      have hS := hB.size
      obtain ⟨p0, p1, p2, -, -, -⟩ := hh1
      obtain ⟨r0, r1, r2, t0, t1, t2⟩ := hh0
      go_wp2_with fail
      rw [HE.out]
      exact bodyPost_ret (v := V3 s.1 s.2.1 s.2.2) (by simp (maxDischargeDepth := 9) [results, Try.results61, go_sem, r0, r1, r2]) rfl ⟨rfl, by go_grown⟩

theorem vAdd_zero (A : Option Addr) (cap : Nat) (w : World) : Calls Try.prog 69 #[.slice A 0 cap] w (Ret (V3 0 0 0) w) := by
  go_enter Try.func69, Try.ntmps69
  go_wp2_with fail
  refine wp_loop_rounds 1 ?_
  rw [rounds_succ]
  go_wp2
  exact bodyPost_ret (v := V3 0 0 0) (by simp (maxDischargeDepth := 9) [results, Try.results69, go_sem]) rfl ⟨rfl, by go_grown⟩
theorem vAdd (A : Option Addr) (n cap : Nat) (l : List T3) (w : World) (hr : RdV w A n l) (hl : l.length ≤ 1000000) (hI : ∀ x ∈ l, InV x) :
    Calls Try.prog 69 #[.slice A n cap] w (Ret (V3 (sumT l).1 (sumT l).2.1 (sumT l).2.2) w) := by
  obtain ⟨rfl, h⟩ := hr
  by_cases h0 : l = []
  · subst h0
    exact vAdd_zero A cap w
  · rcases h with rfl | ⟨b, off, rfl, hc⟩
    · exact absurd rfl h0
    · exact vAdd_ne b off _ cap l rfl hl hI w (hc.lt h0) hc

theorem vTimes_zero (A : Option Addr) (cap : Nat) (w : World) : Calls Try.prog 61 #[.slice A 0 cap] w (Ret (V3 4294967296 4294967296 4294967296) w) := by
  go_enter Try.func61, Try.ntmps61
  go_wp2_with fail
  refine wp_loop_rounds 1 ?_
  rw [rounds_succ]
  go_wp2
  exact bodyPost_ret (v := V3 4294967296 4294967296 4294967296) (by simp (maxDischargeDepth := 9) [results, Try.results61, go_sem]) rfl ⟨rfl, by go_grown⟩
theorem vTimes (A : Option Addr) (n cap : Nat) (l : List T3) (w : World) (hr : RdV w A n l) (hl : l.length ≤ 1000000) (hI : ∀ x ∈ l, InV x) :
    Calls Try.prog 61 #[.slice A n cap] w (Ret (V3 (mulT l).1 (mulT l).2.1 (mulT l).2.2) w) := by
  obtain ⟨rfl, h⟩ := hr
  by_cases h0 : l = []
  · subst h0
    exact vTimes_zero A cap w
  · rcases h with rfl | ⟨b, off, rfl, hc⟩
    · exact absurd rfl h0
    · exact vTimes_ne b off _ cap l rfl hl hI w (hc.lt h0) hc

/-- Two vectors, three vectors in a block. -/
theorem cellsV2 {w : World} {B : Nat} {a b : T3} (h0 : w.cell? ⟨B, 0, none⟩ = some (.int .i64 a.1)) (h1 : w.cell? ⟨B, 1, none⟩ = some (.int .i64 a.2.1)) (h2 : w.cell? ⟨B, 2, none⟩ = some (.int .i64 a.2.2))
    (h3 : w.cell? ⟨B, 3, none⟩ = some (.int .i64 b.1)) (h4 : w.cell? ⟨B, 4, none⟩ = some (.int .i64 b.2.1)) (h5 : w.cell? ⟨B, 5, none⟩ = some (.int .i64 b.2.2)) : CellsV w B 0 [a, b] := by
  intro i h
  match i, h with
  | 0, _ => exact ⟨h0, h1, h2⟩
  | 1, _ => exact ⟨h3, h4, h5⟩

end Go.Proofs.Ytognbeejobfpfaa
