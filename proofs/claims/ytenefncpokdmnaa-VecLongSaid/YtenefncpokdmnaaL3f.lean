/- Walk: the law VecLong. -/
import Derived.Test.YtenefncpokdmnaaLaw3
import Derived.Test.YtenefncpokdmnaaFresh2
import Derived.Test.YtenefncpokdmnaaSettle
import Derived.Test.YtenefncpokdmnaaAddTwo
import Derived.Test.YtenefncpokdmnaaWalkK
import Derived.Test.YtenefncpokdmnaaFrameV
namespace Go.Proofs.Ytenefncpokdmnaa
open Go.RowKit Go.Sort
set_option linter.unusedVariables false
set_option linter.unusedSimpArgs false

theorem fabs_sq {x : Int} (h : InI x) : fabs x * fabs x ≤ x * x ∧ x * x ≤ (fabs x + 1) * (fabs x + 1) := by
  rw [fabs_val h]
  split
  · split
    · rename_i e; rw [e]; decide
    · have e : -x * -x = x * x := Int.neg_mul_neg x x
      have e2 : (-x + 1) * (-x + 1) = -x * -x + -x + -x + 1 := by grind
      rw [e2, e]; omega
  · have e2 : (x + 1) * (x + 1) = x * x + x + x + 1 := by grind
    rw [e2]; omega
theorem long_most {a : T3} (h : InV a) : vmost a ≤ vlen a := by
  have h0 := fabs_sq h.1
  have h1 := fabs_sq h.2.1
  have h2 := fabs_sq h.2.2
  have n0 := fabs_nonneg h.1
  have n1 := fabs_nonneg h.2.1
  have n2 := fabs_nonneg h.2.2
  have s0 := (sq_bd h.1).1
  have s1 := (sq_bd h.2.1).1
  have s2 := (sq_bd h.2.2).1
  have i0 := fabs_I h.1
  have i1 := fabs_I h.2.1
  have i2 := fabs_I h.2.2
  unfold InI at i0 i1 i2
  have hT := vT_bd h
  have key : ∀ m, 0 ≤ m → m ≤ 9223372036854775807 → m * m ≤ vT a → m ≤ vlen a := by
    intro m m0 m1 hm
    unfold vlen
    split
    · exact m1
    · have hr := (sqN_root (x := vT a) hT.1 (by omega)).1
      obtain ⟨r0, r1, r2⟩ := hr
      rcases Int.lt_or_le (sqN (vT a)) m with g | g
      · exfalso
        have := sq_mono (a := sqN (vT a) + 1) (b := m) (by omega) (by omega)
        omega
      · exact g
  have hv : vT a = a.1 * a.1 + a.2.1 * a.2.1 + a.2.2 * a.2.2 := rfl
  have k0 := key _ n0 i0.2 (by omega)
  have k1 := key _ n1 i1.2 (by omega)
  have k2 := key _ n2 i2.2 (by omega)
  unfold vmost
  omega
theorem long_sum {a : T3} (h : InV a) : vlen a ≤ fabs a.1 + fabs a.2.1 + fabs a.2.2 + 1 := by
  have n0 := fabs_nonneg h.1
  have n1 := fabs_nonneg h.2.1
  have n2 := fabs_nonneg h.2.2
  have hT := vT_bd h
  have hv : vT a = a.1 * a.1 + a.2.1 * a.2.1 + a.2.2 * a.2.2 := rfl
  have hl := vlen_I h
  have big : ∀ x, InI x → (fabs x = 9223372036854775807 ∨ x * x ≤ fabs x * fabs x) := by
    intro x hx
    rw [fabs_val hx]
    split
    · split
      · exact .inl rfl
      · right; rw [Int.neg_mul_neg]; exact Int.le_refl _
    · right; exact Int.le_refl _
  rcases big _ h.1 with g0 | g0
  · omega
  rcases big _ h.2.1 with g1 | g1
  · omega
  rcases big _ h.2.2 with g2 | g2
  · omega
  generalize fabs a.1 = x at *
  generalize fabs a.2.1 = y at *
  generalize fabs a.2.2 = z at *
  have p1 := Int.mul_nonneg n0 n1
  have p2 := Int.mul_nonneg n0 n2
  have p3 := Int.mul_nonneg n1 n2
  have e : (x + y + z) * (x + y + z) = x * x + y * y + z * z + 2 * (x * y) + 2 * (x * z) + 2 * (y * z) := by grind
  have hs : vT a ≤ (x + y + z) * (x + y + z) := by omega
  unfold vlen
  split
  · rename_i hb
    rcases Int.lt_or_le (x + y + z) 9223372036854775807 with g | g
    · exfalso
      have := sq_mono (a := x + y + z) (b := 9223372036854775806) (by omega) (by omega)
      omega
    · omega
  · obtain ⟨r0, r1, r2⟩ := (sqN_root (x := vT a) hT.1 (by omega)).1
    rcases Int.lt_or_le (x + y + z) (sqN (vT a)) with g | g
    · exfalso
      have := sq_mono (a := x + y + z + 1) (b := sqN (vT a)) (by omega) (by omega)
      have e2 : (x + y + z + 1) * (x + y + z + 1) = (x + y + z) * (x + y + z) + 2 * (x + y + z) + 1 := by grind
      omega
    · omega

set_option maxRecDepth 100000 in
set_option maxHeartbeats 1600000 in
theorem walkVecLong (a : T3) (n m x y z s k : Int) (hnm : ¬ n < m) (hn : ¬ n < 0) (hk : k ≤ 0) (K1 : Hid (∀ w, Calls Try.prog 19 #[V3 a.1 a.2.1 a.2.2] w (Ret (.int .i64 n) w))) (K2 : Hid (∀ w, Calls Try.prog 38 #[V3 a.1 a.2.1 a.2.2] w (Ret (.int .i64 m) w))) (K3 : Hid (∀ w, Calls Try.prog 41 #[.int .i64 a.1] w (Ret (.int .i64 x) w))) (K4 : Hid (∀ w, Calls Try.prog 41 #[.int .i64 a.2.1] w (Ret (.int .i64 y) w))) (K5 : Hid (∀ w, Calls Try.prog 41 #[.int .i64 a.2.2] w (Ret (.int .i64 z) w))) (K6 : Hid (∀ w, Calls Try.prog 40 #[.int .i64 x] w (Ret (W x) w))) (K7 : Hid (∀ w, Calls Try.prog 40 #[.int .i64 y] w (Ret (W y) w))) (K8 : Hid (∀ w, Calls Try.prog 40 #[.int .i64 z] w (Ret (W z) w))) (K9 : Hid (∀ w, Calls Try.prog 40 #[.int .i64 1] w (Ret (W 1) w))) (K10 : Hid (∀ w, Calls Try.prog 40 #[.int .i64 n] w (Ret (W n) w))) (K11 : Hid (∀ w, Calls Try.prog 42 #[W n, W s] w (Ret (.int .i64 k) w))) (K12 : Hid (∀ w B, w.cell? ⟨B, 0, none⟩ = some (.int .i64 (wHi x)) → w.cell? ⟨B, 1, none⟩ = some (.int .u64 (wLo x)) → w.cell? ⟨B, 2, none⟩ = some (.int .i64 (wHi y)) → w.cell? ⟨B, 3, none⟩ = some (.int .u64 (wLo y)) → w.cell? ⟨B, 4, none⟩ = some (.int .i64 (wHi z)) → w.cell? ⟨B, 5, none⟩ = some (.int .u64 (wLo z)) → w.cell? ⟨B, 6, none⟩ = some (.int .i64 (wHi 1)) → w.cell? ⟨B, 7, none⟩ = some (.int .u64 (wLo 1)) → Calls Try.prog 39 #[.slice (some ⟨B, 0, none⟩) 4 4] w (Ret (.tuple #[W s, .bool true]) w))) (w : World) : Calls Try.prog 9 #[V3 a.1 a.2.1 a.2.2] w (Ret (.bool true) w) := by
  go_enter Try.func9, Try.ntmps9
  go_wp2_with fail
  refine (K1.out _).mono ?_; rintro e w1 ⟨rfl, hb1⟩
  have hB1 : Below w.heap.size w w1 := Below.next (by go_grown) hb1
  have d1_0 : w1.cell? ⟨w.heap.size, 0, none⟩ = some (.int .i64 a.1) := cell_call hb1 (by first | assumption | go_cell | simp [go_sem] | simp [go_sem, *])
  have d1_1 : w1.cell? ⟨w.heap.size, 1, none⟩ = some (.int .i64 a.2.1) := cell_call hb1 (by first | assumption | go_cell | simp [go_sem] | simp [go_sem, *])
  have d1_2 : w1.cell? ⟨w.heap.size, 2, none⟩ = some (.int .i64 a.2.2) := cell_call hb1 (by first | assumption | go_cell | simp [go_sem] | simp [go_sem, *])
  have l1_0 : w.heap.size < w1.heap.size := World.block_lt_of_cell? w1 _ d1_0
  have hS1 := hB1.size
  clear hb1
  go_wp2_with fail
  refine (K2.out _).mono ?_; rintro e w2 ⟨rfl, hb2⟩
  have hB2 : Below w.heap.size w w2 := Below.next (by go_grown) hb2
  have d2_0 : w2.cell? ⟨w.heap.size, 0, none⟩ = some (.int .i64 a.1) := cell_call hb2 (by first | assumption | go_cell | simp [go_sem] | simp [go_sem, *])
  have d2_1 : w2.cell? ⟨w.heap.size, 1, none⟩ = some (.int .i64 a.2.1) := cell_call hb2 (by first | assumption | go_cell | simp [go_sem] | simp [go_sem, *])
  have d2_2 : w2.cell? ⟨w.heap.size, 2, none⟩ = some (.int .i64 a.2.2) := cell_call hb2 (by first | assumption | go_cell | simp [go_sem] | simp [go_sem, *])
  have l2_0 : w.heap.size < w2.heap.size := World.block_lt_of_cell? w2 _ d2_0
  clear d1_0 d1_1 d1_2 l1_0
  have hS2 := hB2.size
  clear hb2
  go_wp2_with fail
  refine wp_region_fresh_gen2 21 (by kernel_rfl) (by kernel_rfl) (fun W3 HW3 => ?_)
  intro F3_0 U3_0
  have hA3 : Below w.heap.size w W3 := by rw [HW3]; go_grown
  have c3_0 : W3.cell? ⟨w.heap.size, 0, none⟩ = some (.int .i64 a.1) := by rw [HW3]; first | assumption | go_cell | simp [go_sem, *]
  have c3_1 : W3.cell? ⟨w.heap.size, 1, none⟩ = some (.int .i64 a.2.1) := by rw [HW3]; first | assumption | go_cell | simp [go_sem, *]
  have c3_2 : W3.cell? ⟨w.heap.size, 2, none⟩ = some (.int .i64 a.2.2) := by rw [HW3]; first | assumption | go_cell | simp [go_sem, *]
  clear HW3
  have r3_0 := reg_cell c3_0
  have r3_1 := reg_cell c3_1
  have r3_2 := reg_cell c3_2
  simp only [List.take_succ_cons, List.take_zero, List.drop_succ_cons, List.drop_zero]
  iterate 2 (refine WL2_plain (fun K hK => ?_); go_simp; refine hK _ ?_; clear hK K)
  refine WL2_call (by kernel_rfl) (fun K hK => ?_)
  go_simp
  apply Exists.intro
  refine ⟨fun w1 hb1 hf1 => ?_, hK _ ?_⟩
  · exact K3.out _
  clear hK K
  refine WL2_call (by kernel_rfl) (fun K hK => ?_)
  go_simp
  apply Exists.intro
  refine ⟨fun w1 hb1 hf1 => ?_, hK _ ?_⟩
  · exact K6.out _
  clear hK K
  iterate 2 (refine WL2_plain (fun K hK => ?_); go_simp; refine hK _ ?_; clear hK K)
  refine WL2_call (by kernel_rfl) (fun K hK => ?_)
  go_simp
  apply Exists.intro
  refine ⟨fun w1 hb1 hf1 => ?_, hK _ ?_⟩
  · exact K4.out _
  clear hK K
  refine WL2_call (by kernel_rfl) (fun K hK => ?_)
  go_simp
  apply Exists.intro
  refine ⟨fun w1 hb1 hf1 => ?_, hK _ ?_⟩
  · exact K7.out _
  clear hK K
  iterate 2 (refine WL2_plain (fun K hK => ?_); go_simp; refine hK _ ?_; clear hK K)
  refine WL2_call (by kernel_rfl) (fun K hK => ?_)
  go_simp
  apply Exists.intro
  refine ⟨fun w1 hb1 hf1 => ?_, hK _ ?_⟩
  · exact K5.out _
  clear hK K
  refine WL2_call (by kernel_rfl) (fun K hK => ?_)
  go_simp
  apply Exists.intro
  refine ⟨fun w1 hb1 hf1 => ?_, hK _ ?_⟩
  · exact K8.out _
  clear hK K
  refine WL2_call (by kernel_rfl) (fun K hK => ?_)
  go_simp
  apply Exists.intro
  refine ⟨fun w1 hb1 hf1 => ?_, hK _ ?_⟩
  · exact K9.out _
  clear hK K
  refine WL2_slice 4 (.cells #[.int .i64 (wHi x), .int .u64 (wLo x), .int .i64 (wHi y), .int .u64 (wLo y), .int .i64 (wHi z), .int .u64 (wLo z), .int .i64 (wHi 1), .int .u64 (wLo 1)] 47) (by kernel_rfl) (by first | rfl | go_simp) (fun w1 => by go_simp; first | rfl | done) ?_
  intro g3_1 F3_1 U3_1 hg3_1 hn3_1 hF3_1 hU3_1
  have HF3_1 := Lib.hid hF3_1; have HU3_1 := Lib.hid hU3_1; clear hF3_1 hU3_1
  have HH3_1 := Lib.hid (show ∀ w1, F3_1 w1 → HasAll [(g3_1, .cells #[.int .i64 (wHi x), .int .u64 (wLo x), .int .i64 (wHi y), .int .u64 (wLo y), .int .i64 (wHi z), .int .u64 (wLo z), .int .i64 (wHi 1), .int .u64 (wLo 1)] 47)] w1 from fun w1 h => ⟨(HF3_1.out w1 h).2, trivial⟩)
  refine WL2_call (by kernel_rfl) (fun K hK => ?_)
  go_simp
  apply Exists.intro
  refine ⟨fun w1 hb1 hf1 => ?_, hK _ ?_⟩
  · exact K12.out _ _ (((HF3_1.out _ hf1).2.cell 0).trans rfl) (((HF3_1.out _ hf1).2.cell 1).trans rfl) (((HF3_1.out _ hf1).2.cell 2).trans rfl) (((HF3_1.out _ hf1).2.cell 3).trans rfl) (((HF3_1.out _ hf1).2.cell 4).trans rfl) (((HF3_1.out _ hf1).2.cell 5).trans rfl) (((HF3_1.out _ hf1).2.cell 6).trans rfl) (((HF3_1.out _ hf1).2.cell 7).trans rfl)
  clear hK K
  iterate 3 (refine WL2_plain (fun K hK => ?_); go_simp; refine hK _ ?_; clear hK K)
  refine WL2_ptr (.cells #[.int .i64 0, .int .u64 0] 47) (by kernel_rfl) (by first | rfl | go_simp) (fun w1 => by go_simp; first | rfl | done) ?_
  intro g3_2 F3_2 U3_2 hg3_2 hn3_2 hF3_2 hU3_2
  have HF3_2 := Lib.hid hF3_2; have HU3_2 := Lib.hid hU3_2; clear hF3_2 hU3_2
  obtain ⟨m3_2_1, e3_2_1⟩ := HU3_1.out _ hn3_2
  have e3_1_2 := Ne.symm e3_2_1
  have HH3_2 := Lib.hid (show ∀ w1, F3_2 w1 → HasAll [(g3_2, .cells #[.int .i64 0, .int .u64 0] 47), (g3_1, .cells #[.int .i64 (wHi x), .int .u64 (wLo x), .int .i64 (wHi y), .int .u64 (wLo y), .int .i64 (wHi z), .int .u64 (wLo z), .int .i64 (wHi 1), .int .u64 (wLo 1)] 47)] w1 from fun w1 h => ⟨(HF3_2.out w1 h).2, HH3_1.out w1 (HF3_2.out w1 h).1⟩)
  refine WL2_store [(g3_1, .cells #[.int .i64 (wHi x), .int .u64 (wLo x), .int .i64 (wHi y), .int .u64 (wLo y), .int .i64 (wHi z), .int .u64 (wLo z), .int .i64 (wHi 1), .int .u64 (wLo 1)] 47)] g3_2 #[.int .i64 0, .int .u64 0] #[.int .i64 (wHi s), .int .u64 (wLo s)] 47 (by kernel_rfl) (by first | rfl | go_simp) _ _ _ rfl (by first | rfl | (go_simp; done) | (go_simp; rfl)) (by first | rfl | (go_simp; done) | (go_simp; rfl)) (by first | rfl | kernel_rfl) rfl (by simp [Value.oneCell']) hg3_2 (fun w1 h => by obtain ⟨a2, a1, -⟩ := HH3_2.out w1 h; exact ⟨⟨a1, trivial⟩, a2⟩) (by intro p hp; simp only [List.mem_cons, List.not_mem_nil, or_false] at hp; rcases hp with rfl <;> assumption) ?_
  intro F3_s1 hF3_s1
  have HF3_s1 := Lib.hid hF3_s1; clear hF3_s1
  have HH3_3 := Lib.hid (show ∀ w1, F3_s1 w1 → HasAll [(g3_2, .cells #[.int .i64 (wHi s), .int .u64 (wLo s)] 47), (g3_1, .cells #[.int .i64 (wHi x), .int .u64 (wLo x), .int .i64 (wHi y), .int .u64 (wLo y), .int .i64 (wHi z), .int .u64 (wLo z), .int .i64 (wHi 1), .int .u64 (wLo 1)] 47)] w1 from fun w1 h => ⟨(HF3_s1.out w1 h).2, (HF3_s1.out w1 h).1⟩)
  refine WL2_plain (fun K hK => ?_); go_simp; refine hK _ ?_; clear hK K
  refine WL2_nil (fun w3 hb3 hf3 => ?_)
  have hB3 : Below w.heap.size w w3 := Below.next hA3 hb3
  obtain ⟨q3_2, q3_1, -⟩ := HH3_3.out _ hf3
  have z3_0 : w.heap.size < W3.heap.size := World.block_lt_of_cell? W3 _ c3_0
  have v3_1_0 : g3_1 ≠ w.heap.size := by omega
  have v3_1_0' := Ne.symm v3_1_0
  have v3_2_0 : g3_2 ≠ w.heap.size := by omega
  have v3_2_0' := Ne.symm v3_2_0
  clear z3_0
  have kg3_1 := q3_1.lt
  have hg3_1 := Nat.le_trans hA3.size hg3_1
  have p3_1_0 : w3.cell? ⟨g3_1, 0, none⟩ = some (.int .i64 (wHi x)) := (q3_1.cell 0).trans rfl
  have y3_1_0 := q3_1.free 0
  have p3_1_1 : w3.cell? ⟨g3_1, 1, none⟩ = some (.int .u64 (wLo x)) := (q3_1.cell 1).trans rfl
  have y3_1_1 := q3_1.free 1
  have p3_1_2 : w3.cell? ⟨g3_1, 2, none⟩ = some (.int .i64 (wHi y)) := (q3_1.cell 2).trans rfl
  have y3_1_2 := q3_1.free 2
  have p3_1_3 : w3.cell? ⟨g3_1, 3, none⟩ = some (.int .u64 (wLo y)) := (q3_1.cell 3).trans rfl
  have y3_1_3 := q3_1.free 3
  have p3_1_4 : w3.cell? ⟨g3_1, 4, none⟩ = some (.int .i64 (wHi z)) := (q3_1.cell 4).trans rfl
  have y3_1_4 := q3_1.free 4
  have p3_1_5 : w3.cell? ⟨g3_1, 5, none⟩ = some (.int .u64 (wLo z)) := (q3_1.cell 5).trans rfl
  have y3_1_5 := q3_1.free 5
  have p3_1_6 : w3.cell? ⟨g3_1, 6, none⟩ = some (.int .i64 (wHi 1)) := (q3_1.cell 6).trans rfl
  have y3_1_6 := q3_1.free 6
  have p3_1_7 : w3.cell? ⟨g3_1, 7, none⟩ = some (.int .u64 (wLo 1)) := (q3_1.cell 7).trans rfl
  have y3_1_7 := q3_1.free 7
  have kg3_2 := q3_2.lt
  have hg3_2 := Nat.le_trans hA3.size hg3_2
  have p3_2_0 : w3.cell? ⟨g3_2, 0, none⟩ = some (.int .i64 (wHi s)) := (q3_2.cell 0).trans rfl
  have y3_2_0 := q3_2.free 0
  have p3_2_1 : w3.cell? ⟨g3_2, 1, none⟩ = some (.int .u64 (wLo s)) := (q3_2.cell 1).trans rfl
  have y3_2_1 := q3_2.free 1
  have d3_0 := cell_call hb3 c3_0
  have d3_1 := cell_call hb3 c3_1
  have d3_2 := cell_call hb3 c3_2
  clear r3_0 c3_0 r3_1 c3_1 r3_2 c3_2
  have l3_0 : w.heap.size < w3.heap.size := World.block_lt_of_cell? w3 _ d3_0
  clear d2_0 d2_1 d2_2 l2_0
  have hS3 := hB3.size
  go_upto_region 5 with fail
  go_upto_region 5 with fail
  refine code_settle (fun w4 hW4 => ?_)
  have hB4 : Below w.heap.size w w4 := by rw [hW4]; go_grown
  have d4_0 : w4.cell? ⟨g3_2, 0, none⟩ = some (.int .i64 (wHi s)) := by rw [hW4]; first | (simp (disch := first | assumption | omega | (simp only [World.size_setCell, World.size_alloc, World.size_drew]; omega) | ((try simp (disch := first | assumption | omega | (simp only [World.size_setCell, World.size_alloc, World.size_drew]; omega)) only [cs_ne, cs_off, ca_lt, ca_at, cd_any]); exact Option.isSome_iff_exists.2 ⟨_, by assumption⟩)) only [cs_ne, cs_off, cs_at, ca_lt, ca_at, cd_any] <;> first | assumption | rfl) | go_cell | simp [go_sem, *]
  have d4_1 : w4.cell? ⟨g3_2, 1, none⟩ = some (.int .u64 (wLo s)) := by rw [hW4]; first | (simp (disch := first | assumption | omega | (simp only [World.size_setCell, World.size_alloc, World.size_drew]; omega) | ((try simp (disch := first | assumption | omega | (simp only [World.size_setCell, World.size_alloc, World.size_drew]; omega)) only [cs_ne, cs_off, ca_lt, ca_at, cd_any]); exact Option.isSome_iff_exists.2 ⟨_, by assumption⟩)) only [cs_ne, cs_off, cs_at, ca_lt, ca_at, cd_any] <;> first | assumption | rfl) | go_cell | simp [go_sem, *]
  have l4_0 : g3_2 < w4.heap.size := World.block_lt_of_cell? w4 _ d4_0
  have hS4 := hB4.size
  clear d3_0 l3_0 d3_1 d3_2 p3_1_0 y3_1_0 p3_1_1 y3_1_1 p3_1_2 y3_1_2 p3_1_3 y3_1_3 p3_1_4 y3_1_4 p3_1_5 y3_1_5 p3_1_6 y3_1_6 p3_1_7 y3_1_7 p3_2_0 y3_2_0 p3_2_1 y3_2_1
  clear hW4
  refine wp_region_fresh_gen 12 (by kernel_rfl) (by kernel_rfl) (fun W5 HW5 => ?_)
  intro F5_0 U5_0
  have hA5 : Below w.heap.size w W5 := by rw [HW5]; go_grown
  have c5_0 : W5.cell? ⟨g3_2, 0, none⟩ = some (.int .i64 (wHi s)) := by rw [HW5]; first | assumption | go_cell | simp [go_sem, *]
  have c5_1 : W5.cell? ⟨g3_2, 1, none⟩ = some (.int .u64 (wLo s)) := by rw [HW5]; first | assumption | go_cell | simp [go_sem, *]
  clear HW5
  have r5_0 := reg_cell c5_0
  have r5_1 := reg_cell c5_1
  simp only [List.take_succ_cons, List.take_zero, List.drop_succ_cons, List.drop_zero]
  iterate 3 (refine WL_plain (fun K hK => ?_); go_simp; refine hK _ ?_; clear hK K)
  refine WL_call (by kernel_rfl) (fun K hK => ?_)
  go_simp
  apply Exists.intro
  refine ⟨fun w1 hb1 hf1 => ?_, hK _ ?_⟩
  · exact K10.out _
  clear hK K
  refine WL_plain (fun K hK => ?_); go_simp; refine hK _ ?_; clear hK K
  refine WL_call (by kernel_rfl) (fun K hK => ?_)
  go_simp
  apply Exists.intro
  refine ⟨fun w1 hb1 hf1 => ?_, hK _ ?_⟩
  · exact K11.out _
  clear hK K
  iterate 3 (refine WL_plain (fun K hK => ?_); go_simp; refine hK _ ?_; clear hK K)
  refine WL_call (by kernel_rfl) (fun K hK => ?_)
  go_simp
  apply Exists.intro
  refine ⟨fun w1 hb1 hf1 => ?_, hK _ ?_⟩
  · exact works3 _
  clear hK K
  iterate 2 (refine WL_plain (fun K hK => ?_); go_simp; refine hK _ ?_; clear hK K)
  refine WL_nil (fun w5 hb5 hf5 => ?_)
  have hB5 : Below w.heap.size w w5 := Below.next hA5 hb5
  have d5_0 := cell_call hb5 c5_0
  have d5_1 := cell_call hb5 c5_1
  clear r5_0 c5_0 r5_1 c5_1
  have l5_0 : g3_2 < w5.heap.size := World.block_lt_of_cell? w5 _ d5_0
  clear d4_0 d4_1 l4_0
  have hS5 := hB5.size
  go_wp2_with fail
  go_ret
  exact ret_of rfl hB5

theorem lawVecLong (ns0 : List Int) (h0 : Al2 Fits [.i64, .i64, .i64] ns0) (w : World) :
    Calls Try.prog 9 #[.agg (vals [.i64, .i64, .i64] ns0).toArray] w (Ret (.bool true) w) := by
  obtain ⟨a, ha, e0⟩ := three_in h0
  rw [e0]
  have hl := vlen_I ha
  have h1 := long_most ha
  have h2 := long_sum ha
  have n0 := fabs_nonneg ha.1
  have n1 := fabs_nonneg ha.2.1
  have n2 := fabs_nonneg ha.2.2
  have i0 := fabs_I ha.1
  have i1 := fabs_I ha.2.1
  have i2 := fabs_I ha.2.2
  have j0 := i0; have j1 := i1; have j2 := i2
  unfold InI at j0 j1 j2
  have W1 : ∀ t : Int, 0 ≤ t → t ≤ 92233720368547758070 → InW t := fun t h h' => by unfold InW; omega
  have e : addL 0 [fabs a.1, fabs a.2.1, fabs a.2.2, 1] = some (fabs a.1 + fabs a.2.1 + fabs a.2.2 + 1) := by
    rw [addL_one (W1 _ (by omega) (by omega)), addL_one (W1 _ (by omega) (by omega)), addL_one (W1 _ (by omega) (by omega)), addL_one (W1 _ (by omega) (by omega)), Int.zero_add]
    rfl
  refine walkVecLong a (vlen a) (vmost a) (fabs a.1) (fabs a.2.1) (fabs a.2.2) (fabs a.1 + fabs a.2.1 + fabs a.2.2 + 1) (cmpW (vlen a) (fabs a.1 + fabs a.2.1 + fabs a.2.2 + 1)) (by omega) (by omega) ?_ (Lib.hid (vLength a ha)) (Lib.hid (vMost a ha))
    (Lib.hid fun w => (fAbs _ ha.1 w).mono fun _ _ h => h.ret) (Lib.hid fun w => (fAbs _ ha.2.1 w).mono fun _ _ h => h.ret) (Lib.hid fun w => (fAbs _ ha.2.2 w).mono fun _ _ h => h.ret)
    (Lib.hid (wOf _ i0)) (Lib.hid (wOf _ i1)) (Lib.hid (wOf _ i2)) (Lib.hid (wOf 1 (by unfold InI; omega))) (Lib.hid (wOf _ (vlen_InI ha))) (Lib.hid (wCmp _ _ (W1 _ (by omega) (by omega)) (W1 _ (by omega) (by omega))))
    (Lib.hid fun w B c0 c1 c2 c3 c4 c5 c6 c7 => ?_) w
  · rcases Int.lt_or_le (vlen a) (fabs a.1 + fabs a.2.1 + fabs a.2.2 + 1) with g | g
    · rw [cmpW_lt g]; decide
    · have : vlen a = fabs a.1 + fabs a.2.1 + fabs a.2.2 + 1 := by omega
      rw [this, cmpW_eq rfl]; decide
  · have := wAdd4c _ _ _ _ (W1 (fabs a.1) (by omega) (by omega)) (W1 (fabs a.2.1) (by omega) (by omega)) (W1 (fabs a.2.2) (by omega) (by omega)) (W1 1 (by omega) (by omega)) B 4 w c0 c1 c2 c3 c4 c5 c6 c7
    rw [sumV_some e] at this
    exact this

end Go.Proofs.Ytenefncpokdmnaa
