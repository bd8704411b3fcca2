/- Walks: vec.Length. -/
import Derived.Test.YtjhnkpapbjkbcaaVecD
import Derived.Test.YtjhnkpapbjkbcaaAddTwo
import Derived.Test.YtjhnkpapbjkbcaaWalkH
import Derived.Deep.RegionHeld3
import Derived.Deep.CutRange
namespace Go.Proofs.Ytjhnkpapbjkbcaa
open Go.RowKit Go.Sort
set_option linter.unusedVariables false
set_option linter.unusedSimpArgs false

/-- A wide number in a block. -/
abbrev Holds2 (w : World) (b : Nat) (h l : Int) : Prop :=
  (w.cell? ⟨b, 0, none⟩ = some (.int .i64 h) ∧ w.cell? ⟨b, 1, none⟩ = some (.int .u64 l)) ∧ w.frozen? ⟨b, 0, none⟩ = false ∧ w.frozen? ⟨b, 1, none⟩ = false
theorem Holds2.call {w w1 : World} {b : Nat} {x y : Int} (h : Holds2 w b x y) (hb : Below w.heap.size w w1) : Holds2 w1 b x y := by
  obtain ⟨⟨h0, h1⟩, f0, f1⟩ := h
  have hl := World.block_lt_of_cell? w _ h0
  obtain ⟨kc, kf, -⟩ := bcell hb
  exact ⟨⟨(kc b 0 hl).trans h0, (kc b 1 hl).trans h1⟩, (kf b 0 hl).trans f0, (kf b 1 hl).trans f1⟩
theorem Holds2.more {w : World} {b : Nat} {x y : Int} (h : Holds2 w b x y) (o : Obj) : Holds2 (w.alloc o) b x y := h.call ((Below.refl _ _).alloc (Nat.le_refl _) _)
theorem own1 {W w1 : World} {x y : Int} {T : TypeId} (hb : Below (W.alloc (.cells #[.int .i64 x, .int .u64 y] T)).heap.size (W.alloc (.cells #[.int .i64 x, .int .u64 y] T)) w1) : Holds2 w1 W.heap.size x y :=
  Holds2.call (w := W.alloc (.cells #[.int .i64 x, .int .u64 y] T)) (by unfold Holds2; simp [go_sem]) hb
theorem own2 {W w1 : World} {x y : Int} {T : TypeId} {o : Obj} (hb : Below ((W.alloc (.cells #[.int .i64 x, .int .u64 y] T)).alloc o).heap.size ((W.alloc (.cells #[.int .i64 x, .int .u64 y] T)).alloc o) w1) : Holds2 w1 W.heap.size x y :=
  Holds2.call (w := (W.alloc (.cells #[.int .i64 x, .int .u64 y] T)).alloc o) (Holds2.call (w := W.alloc (.cells #[.int .i64 x, .int .u64 y] T)) (by unfold Holds2; simp [go_sem]) ((Below.refl _ _).alloc (Nat.le_refl _) _)) hb
theorem own3 {W w1 : World} {x y : Int} {T : TypeId} (hb : Below (W.alloc (.cells #[.int .i64 x, .int .u64 y] T)).drew.heap.size (W.alloc (.cells #[.int .i64 x, .int .u64 y] T)).drew w1) : Holds2 w1 W.heap.size x y :=
  Holds2.call (w := (W.alloc (.cells #[.int .i64 x, .int .u64 y] T)).drew) (by unfold Holds2; simp [go_sem]) hb

/-- The cells of a box. -/
abbrev Cells3 (B : Nat) (v : T3) (w : World) : Prop :=
  w.cell? ⟨B, 0, none⟩ = some (.int .i64 v.1) ∧ w.cell? ⟨B, 1, none⟩ = some (.int .i64 v.2.1) ∧ w.cell? ⟨B, 2, none⟩ = some (.int .i64 v.2.2)
theorem Cells3.call {w w1 : World} {b : Nat} {v : T3} (h : Cells3 b v w) (hb : Below w.heap.size w w1) : Cells3 b v w1 :=
  ⟨cell_call hb h.1, cell_call hb h.2.1, cell_call hb h.2.2⟩

theorem Cells3.put2 {w : World} {b g : Nat} {v : T3} (h : Cells3 b v w) (hne : b ≠ g) (x y : Value) : Cells3 b v ((w.setCell ⟨g, 0, none⟩ x).setCell ⟨g, 1, none⟩ y) := by
  obtain ⟨h0, h1, h2⟩ := h
  unfold Cells3
  simp (maxDischargeDepth := 9) [go_sem, h0, h1, h2, hne, Ne.symm hne]

theorem vLength1 (x : Int) (hx : InI x) (w : World) : Calls Try.prog 48 #[.int .i64 x] w (Ret (W (x * x)) w) := by
  go_enter Try.func48, Try.ntmps48
  go_wp2_with fail
  refine (wMul x x hx hx _).mono ?_; rintro e w1 ⟨rfl, hb1⟩
  have hB1 : Below w.heap.size w w1 := Below.next (by go_grown) hb1
  have g := (own1 hb1)
  obtain ⟨⟨r0, r1⟩, t0, t1⟩ := g
  clear hb1
  go_wp2
  exact bodyPost_ret (v := W (x * x)) (by simp (maxDischargeDepth := 9) [results, Try.results48, go_sem, r0, r1]) rfl ⟨rfl, by go_grown⟩

/-- A variable that holds a wide number, and whether there is one. -/
def IsW (w : World) (S : Int) (ok : Bool) (p o : Value) (wx : World) : Prop :=
  ∃ g : Nat, p = .pointer (some ⟨g, 0, none⟩) ∧ o = .bool ok ∧ Holds2 wx g (wHi S) (wLo S) ∧ Below w.heap.size w wx

set_option maxRecDepth 100000 in
set_option maxHeartbeats 4000000 in
theorem vLength_any (a : T3) (S : Int) (ok : Bool) (r : Int) (ha : InV a) (HS : Hid (sumV [a.1 * a.1, a.2.1 * a.2.1, a.2.2 * a.2.2] = .tuple #[W S, .bool ok])) (R : Int) (HR : Hid (sqN S = R)) (hR0 : 0 ≤ R) (hR1 : R ≤ 18446744073709551615) (hno : ok = false → r = 9223372036854775807) (hyes : ok = true → InW S ∧ r = min R 9223372036854775807) (w : World) : Calls Try.prog 25 #[V3 a.1 a.2.1 a.2.2] w (Ret (.int .i64 r) w) := by
  obtain ⟨h0, h1, h2⟩ := ha
  go_enter Try.func25, Try.ntmps25
  go_upto_region 2 with fail
  go_cut [4, 5] from 6 to 22 (fun p o wx => IsW w S ok p o wx)
  case first =>
    have hk : Cells3 w.heap.size a (w.alloc (.cells #[.int .i64 a.1, .int .i64 a.2.1, .int .i64 a.2.2] 26)) := by unfold Cells3; simp [go_sem]
    go_region_held3 (fun w' => w'.cell? ⟨w.heap.size, 0, none⟩ = some (.int .i64 a.1) ∧ w'.cell? ⟨w.heap.size, 1, none⟩ = some (.int .i64 a.2.1) ∧ w'.cell? ⟨w.heap.size, 2, none⟩ = some (.int .i64 a.2.2))
      (first | assumption | go_keep | exact Cells3.put2 (v := a) (by assumption) (by omega) _ _)
      (first
        | (go_at_call 48; refine (vLength1 _ (by assumption) _).mono ?_; rintro e w4 ⟨rfl, hb4⟩; have hB4 : Below w.heap.size w w4 := Below.next (by go_grown) hb4; have hs4 := hb4.size; (try simp only [World.size_alloc, World.size_drew] at hs4); have hk := Cells3.call (v := a) (b := w.heap.size) (by assumption) hb4; first | (have o4 := own3 hb4; (try simp only [World.size_alloc, World.size_drew] at o4)) | (have o4 := own1 hb4; (try simp only [World.size_alloc, World.size_drew] at o4)) | (have o4 := Holds2.call (by assumption) hb4) | (have o4 := Holds2.call (Holds2.more (by assumption) _) hb4) | skip)
        | (go_at_call 50; refine (wAdd3c _ _ _ (mul_InW h0 h0) (mul_InW h1 h1) (mul_InW h2 h2) _ _ _ (by first | go_cell | simp [go_sem]) (by first | go_cell | simp [go_sem]) (by first | go_cell | simp [go_sem]) (by first | go_cell | simp [go_sem]) (by first | go_cell | simp [go_sem]) (by first | go_cell | simp [go_sem])).mono ?_; rintro e w4 ⟨rfl, hb4⟩; rw [HS.out]; have hB4 : Below w.heap.size w w4 := Below.next (by go_grown) hb4; have hs4 := hb4.size; (try simp only [World.size_alloc, World.size_drew] at hs4); have hk := Cells3.call (v := a) (b := w.heap.size) (by assumption) hb4; first | (have o4 := own3 hb4; (try simp only [World.size_alloc, World.size_drew] at o4)) | (have o4 := own1 hb4; (try simp only [World.size_alloc, World.size_drew] at o4)) | (have o4 := own2 hb4; (try simp only [World.size_alloc, World.size_drew] at o4)) | (have o4 := Holds2.call (by assumption) hb4) | (have o4 := Holds2.call (Holds2.more (by assumption) _) hb4) | skip))
    all_goals
      go_wp2_with fail
      go_meet
      exact ⟨_, rfl, rfl, by unfold Holds2; simp (maxDischargeDepth := 9) [go_sem, *], by go_grown⟩
  case rest =>
    obtain ⟨g, rfl, rfl, ⟨⟨c0, c1⟩, t0, t1⟩, hB⟩ := hcut
    have hS := hB.size
    cases ok
    · obtain rfl := hno rfl
      go_wp2_with fail
      go_ret
      exact ret_of rfl hB
    · obtain ⟨hW, hr⟩ := hyes rfl
      go_wp2_with fail
      refine (wSqrt S hW _).mono ?_; rintro e w5 ⟨rfl, hb5⟩
      have hB5 : Below w.heap.size w w5 := Below.next hB hb5
      rw [HR.out]
      go_wp2_with fail
      go_ret
      exact ret_of (vint hr.symm) hB5

end Go.Proofs.Ytjhnkpapbjkbcaa
