/- Walks: fix.near, Of, Floor, Round, Sub, Neg, Abs. Walk: fix.Add. Walk: fix.Mul. Walks: fix.Div, Sqrt, Clamp. fix.Add, fix.Mul of two and three; Lerp; the chapter's example. The chapter's example of layer 2. Walks: vec.each. Walks: vec.Add, vec.Times. Walks: vec.Sub, Scale, Lerp, Dot, Most. Walk: wide.MulDiv. Walks: vec.Of. Walks: vec.Length. Walks: the document's answer for layer 2: Size, Near, Of, Floor, Round, Two, Sub. Walks: the document's answer for layer 2: Two, Sub. Walk: the document's answer for layer 2: Times. Walks: the document's answer for layer 2: Clamp, Lerp. Walks: the document's answer for layer 2: Root, Sqrt. vec.Length, vec.Unit. vec.Toward. Walk: the document's answer for layer 2: Div. Walks: the document's answer for layer 3: vectors made part by part. Walks: the document's answer for layer 3: Dot, Cross, Most, Length. Walks: the document's answer for layer 3: Length, Unit. -/
import Derived.Test.YtlpnklcnheafoaaFixM
import Derived.Test.YtlpnklcnheafoaaWide1
import Derived.Outline
import Derived.Deep.LoopGhost
import Derived.Test.YtlpnklcnheafoaaWalkG
import Derived.Test.YtlpnklcnheafoaaWalkH
import Derived.Test.YtlpnklcnheafoaaQuiet
import Derived.Test.YtlpnklcnheafoaaQuietT
import Derived.Test.YtlpnklcnheafoaaVecM
import Derived.Test.YtlpnklcnheafoaaMathA
import Derived.Test.YtlpnklcnheafoaaAddTwo
import Derived.Deep.RegionHeld3
import Derived.Deep.CutRange
import Derived.Test.YtlpnklcnheafoaaWalkE
import Derived.Test.YtlpnklcnheafoaaBase
namespace Go.Proofs.Ytlpnklcnheafoaa
open Go.RowKit
set_option linter.unusedVariables false
set_option linter.unusedSimpArgs false


theorem i64_mask (m : Nat) (hm : m ≤ 62) (n : Int) : bits .and .i64 n ((2 ^ m - 1 : Nat) : Int) = n % ((2 ^ m : Nat) : Int) := by
  have hp : 2 ^ m ≤ 2 ^ 62 := Nat.pow_le_pow_right (by decide) hm
  have h0 : 0 < 2 ^ m := Nat.two_pow_pos m
  have hmask : (BitVec.ofInt 64 ((2 ^ m - 1 : Nat) : Int)).toNat = 2 ^ m - 1 := by
    rw [BitVec.toNat_ofInt, ← Int.natCast_emod, Int.toNat_natCast, Nat.mod_eq_of_lt (by omega)]
  have key : (BitVec.ofInt 64 n &&& BitVec.ofInt 64 ((2 ^ m - 1 : Nat) : Int)).toNat = (n % ((2 ^ 64 : Nat) : Int)).toNat % 2 ^ m := by
    rw [BitVec.toNat_and, BitVec.toNat_ofInt, hmask, Nat.and_two_pow_sub_one_eq_mod]
  show IntKind.i64.wrap ((BitVec.ofInt 64 n &&& BitVec.ofInt 64 ((2 ^ m - 1 : Nat) : Int)).toNat : Nat) = n % ((2 ^ m : Nat) : Int)
  rw [key, IntKind.wrap_i64]
  have e1 : (((n % ((2 ^ 64 : Nat) : Int)).toNat % 2 ^ m : Nat) : Int) = n % ((2 ^ m : Nat) : Int) := by
    rw [Int.natCast_emod, Int.toNat_of_nonneg (Int.emod_nonneg _ (by decide))]
    apply Int.emod_emod_of_dvd
    exact Int.natCast_dvd_natCast.2 (Nat.pow_dvd_pow 2 (by omega))
  rw [e1]
  have e2 := Int.emod_nonneg n (show ((2 ^ m : Nat) : Int) ≠ 0 by omega)
  have e3 := Int.emod_lt_of_pos n (show (0 : Int) < ((2 ^ m : Nat) : Int) by omega)
  omega
theorem i64_bit (n : Int) : bits BinOp.and IntKind.i64 n 1 = n % 2 := i64_mask 1 (by decide) n
theorem i64_low16 (n : Int) : bits BinOp.and IntKind.i64 n 65535 = n % 65536 := i64_mask 16 (by decide) n

end Go.Proofs.Ytlpnklcnheafoaa

namespace Go.Proofs.Ytlpnklcnheafoaa
open Go.RowKit
set_option linter.unusedVariables false
set_option linter.unusedSimpArgs false

end Go.Proofs.Ytlpnklcnheafoaa

namespace Go.Proofs.Ytlpnklcnheafoaa
open Go.RowKit
set_option linter.unusedVariables false
set_option linter.unusedSimpArgs false

theorem shr32 (p x : Int) : shrN (p * x) 32 = p * x / 4294967296 := rfl

end Go.Proofs.Ytlpnklcnheafoaa

namespace Go.Proofs.Ytlpnklcnheafoaa
open Go.RowKit
set_option linter.unusedVariables false
set_option linter.unusedSimpArgs false

theorem sqrt_small {a : Int} (ha : InI a) (h0 : 0 ≤ a) : 0 ≤ sqN (a * 4294967296) ∧ sqN (a * 4294967296) ≤ 9223372036854775807 := by
  unfold InI at ha
  obtain ⟨⟨r0, r1, r2⟩, h1⟩ := sqN_root (x := a * 4294967296) (by omega) (by omega)
  refine ⟨r0, ?_⟩
  rcases ltge (sqN (a * 4294967296)) 9223372036854775808 with g | g
  · omega
  · have := sq_mono (a := 9223372036854775808) (by omega) g
    omega



end Go.Proofs.Ytlpnklcnheafoaa

namespace Go.Proofs.Ytlpnklcnheafoaa
open Go.RowKit Go.Sort
set_option linter.unusedVariables false
set_option linter.unusedSimpArgs false

theorem cells2 {w : World} {B : Nat} {a b : Int} (h0 : w.cell? ⟨B, 0, none⟩ = some (.int .i64 a)) (h1 : w.cell? ⟨B, 1, none⟩ = some (.int .i64 b)) : CellsI w B 0 [a, b] := by
  intro i h
  match i, h with
  | 0, _ => exact h0
  | 1, _ => exact h1
theorem cells3 {w : World} {B : Nat} {a b c : Int} (h0 : w.cell? ⟨B, 0, none⟩ = some (.int .i64 a)) (h1 : w.cell? ⟨B, 1, none⟩ = some (.int .i64 b)) (h2 : w.cell? ⟨B, 2, none⟩ = some (.int .i64 c)) : CellsI w B 0 [a, b, c] := by
  intro i h
  match i, h with
  | 0, _ => exact h0
  | 1, _ => exact h1
  | 2, _ => exact h2


end Go.Proofs.Ytlpnklcnheafoaa

namespace Go.Proofs.Ytlpnklcnheafoaa
open Go.RowKit Go.Sort
set_option linter.unusedVariables false
set_option linter.unusedSimpArgs false

theorem vals2 : fof 3 = 12884901888 ∧ fof (-1) = -4294967296 ∧ fof 2 = 8589934592 ∧ fmul 12884901888 2147483648 = 6442450944 ∧ fdiv (-4294967296) 12884901888 = -1431655766 ∧ satAdd 9223372036854775807 1 = 9223372036854775807 ∧ fsqrt 8589934592 = 6074000999 := by decide +kernel

end Go.Proofs.Ytlpnklcnheafoaa

namespace Go.Proofs.Ytlpnklcnheafoaa
open Go.RowKit Go.Sort
set_option linter.unusedVariables false
set_option linter.unusedSimpArgs false

end Go.Proofs.Ytlpnklcnheafoaa

namespace Go.Proofs.Ytlpnklcnheafoaa
open Go.RowKit Go.Sort
set_option linter.unusedVariables false
set_option linter.unusedSimpArgs false

/-- Two vectors, three vectors in a block. -/
theorem cellsV2 {w : World} {B : Nat} {a b : T3} (h0 : w.cell? ⟨B, 0, none⟩ = some (.int .i64 a.1)) (h1 : w.cell? ⟨B, 1, none⟩ = some (.int .i64 a.2.1)) (h2 : w.cell? ⟨B, 2, none⟩ = some (.int .i64 a.2.2))
    (h3 : w.cell? ⟨B, 3, none⟩ = some (.int .i64 b.1)) (h4 : w.cell? ⟨B, 4, none⟩ = some (.int .i64 b.2.1)) (h5 : w.cell? ⟨B, 5, none⟩ = some (.int .i64 b.2.2)) : CellsV w B 0 [a, b] := by
  intro i h
  match i, h with
  | 0, _ => exact ⟨h0, h1, h2⟩
  | 1, _ => exact ⟨h3, h4, h5⟩

end Go.Proofs.Ytlpnklcnheafoaa

namespace Go.Proofs.Ytlpnklcnheafoaa
open Go.RowKit Go.Sort
set_option linter.unusedVariables false
set_option linter.unusedSimpArgs false

theorem sumT2 {a b : T3} (ha : InV a) : sumT [a, b] = vadd a b := by show vadd (vadd zero3 a) b = _; rw [vadd_zero ha]
theorem sumT3 {a b c : T3} (ha : InV a) : sumT [a, b, c] = vadd (vadd a b) c := by show vadd (vadd (vadd zero3 a) b) c = _; rw [vadd_zero ha]
theorem mulT2 {a b : T3} (ha : InV a) : mulT [a, b] = vmul a b := by show vmul (vmul one3 a) b = _; rw [vmul_one ha]

def vlerp (a b : T3) (t : Int) : T3 := (flerp a.1 b.1 t, flerp a.2.1 b.2.1 t, flerp a.2.2 b.2.2 t)

theorem flerp_I (a b t : Int) : InI (flerp a b t) := satAdd_I _ _
theorem vlerp_I (a b : T3) (t : Int) : InV (vlerp a b t) := ⟨flerp_I _ _ _, flerp_I _ _ _, flerp_I _ _ _⟩

def vdot (a b : T3) : Int := satAdd (satAdd (vmul a b).1 (vmul a b).2.1) (vmul a b).2.2

theorem imax (x y : Int) : (if x < y then y else x) = max x y := by omega
theorem imin (x y : Int) : (if y < x then y else x) = min x y := by omega
def vmost (a : T3) : Int := max (max (fabs a.1) (fabs a.2.1)) (fabs a.2.2)

end Go.Proofs.Ytlpnklcnheafoaa

namespace Go.Proofs.Ytlpnklcnheafoaa
open Go.RowKit
set_option linter.unusedVariables false
set_option linter.unusedSimpArgs false

set_option maxHeartbeats 800000 in
theorem wMulDiv (a b c : Int) (ha : InI a) (hb : InI b) (hc : InI c) (w : World) :
    Calls Try.prog 36 #[.int .i64 a, .int .i64 b, .int .i64 c] w (Ret (.int .i64 (mdN a b c)) w) := by
  by_cases h0 : c = 0
  · subst h0
    have e : mdN a b 0 = 0 := rfl
    rw [e]
    go_enter Try.func36, Try.ntmps36
    go_wp2_with fail
    go_ret
    exact ret_of rfl (by go_grown)
  have e0 : (c == 0) = false := by rw [beq_eq_false_iff_ne]; exact h0
  have hok := divOk_mul ha hb h0
  have HM : Hid (mdN a b c = clampI (divQ (a * b) c)) := Lib.hid (by rw [divQ_ok hok]; unfold mdN; rw [if_neg h0])
  have hq := divQ_in (a * b) c
  have hp := mul_InW ha hb
  clear h0 hok
  by_cases hf : InI (divQ (a * b) c)
  · have HF := Lib.hid (fits_true hf)
    have HC := Lib.hid (clampI_in hf)
    have HI := Lib.hid (intN_fits HF.out)
    clear hf
    go_enter Try.func36, Try.ntmps36
    go_wp2_with fail
    refine (wMul a b ha hb _).mono ?_; rintro e w1 ⟨rfl, hb1⟩
    obtain ⟨hB1, hS1⟩ : Below w.heap.size w w1 ∧ w.heap.size ≤ w1.heap.size := Below.step (by go_grown) hb1
    go_wp2_with fail
    refine (wDiv (a * b) c hp hc _).mono ?_; rintro e w2 ⟨rfl, hb2⟩
    obtain ⟨hB2, hS2⟩ : Below w.heap.size w w2 ∧ w.heap.size ≤ w2.heap.size := Below.step (by go_grown) hb2
    go_wp2_with fail
    refine (wInt _ hq _).mono ?_; rintro e w3 ⟨rfl, hb3⟩
    obtain ⟨hB3, hS3⟩ : Below w.heap.size w w3 ∧ w.heap.size ≤ w3.heap.size := Below.step (by go_grown) hb3
    rw [HF.out, HI.out]
    go_wp2_with fail
    go_ret
    exact ret_of (vint (by rw [HM.out, HC.out])) hB3
  · have HF := Lib.hid (fits_false hf)
    have HI := Lib.hid (intN_not HF.out)
    by_cases hn : divQ (a * b) c < 0
    · have HC := Lib.hid (clampI_lo hf hn)
      have e3 : wHi (divQ (a * b) c) < 0 := by unfold wHi; omega
      clear hf
      go_enter Try.func36, Try.ntmps36
      go_wp2_with fail
      refine (wMul a b ha hb _).mono ?_; rintro e w1 ⟨rfl, hb1⟩
      obtain ⟨hB1, hS1⟩ : Below w.heap.size w w1 ∧ w.heap.size ≤ w1.heap.size := Below.step (by go_grown) hb1
      go_wp2_with fail
      refine (wDiv (a * b) c hp hc _).mono ?_; rintro e w2 ⟨rfl, hb2⟩
      obtain ⟨hB2, hS2⟩ : Below w.heap.size w w2 ∧ w.heap.size ≤ w2.heap.size := Below.step (by go_grown) hb2
      go_wp2_with fail
      refine (wInt _ hq _).mono ?_; rintro e w3 ⟨rfl, hb3⟩
      obtain ⟨hB3, hS3⟩ : Below w.heap.size w w3 ∧ w.heap.size ≤ w3.heap.size := Below.step (by go_grown) hb3
      rw [HF.out, HI.out]
      obtain ⟨hc3, hf3, hs3⟩ := bcell hb3
      go_wp2_with fail
      go_ret
      exact ret_of (vint (by rw [HM.out, HC.out])) hB3
    · have HC := Lib.hid (clampI_hi hf hn)
      have e3 : ¬ wHi (divQ (a * b) c) < 0 := by unfold wHi; omega
      clear hf
      go_enter Try.func36, Try.ntmps36
      go_wp2_with fail
      refine (wMul a b ha hb _).mono ?_; rintro e w1 ⟨rfl, hb1⟩
      obtain ⟨hB1, hS1⟩ : Below w.heap.size w w1 ∧ w.heap.size ≤ w1.heap.size := Below.step (by go_grown) hb1
      go_wp2_with fail
      refine (wDiv (a * b) c hp hc _).mono ?_; rintro e w2 ⟨rfl, hb2⟩
      obtain ⟨hB2, hS2⟩ : Below w.heap.size w w2 ∧ w.heap.size ≤ w2.heap.size := Below.step (by go_grown) hb2
      go_wp2_with fail
      refine (wInt _ hq _).mono ?_; rintro e w3 ⟨rfl, hb3⟩
      obtain ⟨hB3, hS3⟩ : Below w.heap.size w w3 ∧ w.heap.size ≤ w3.heap.size := Below.step (by go_grown) hb3
      rw [HF.out, HI.out]
      obtain ⟨hc3, hf3, hs3⟩ := bcell hb3
      go_wp2_with fail
      go_ret
      exact ret_of (vint (by rw [HM.out, HC.out])) hB3

end Go.Proofs.Ytlpnklcnheafoaa

namespace Go.Proofs.Ytlpnklcnheafoaa
open Go.RowKit Go.Sort
set_option linter.unusedVariables false
set_option linter.unusedSimpArgs false

end Go.Proofs.Ytlpnklcnheafoaa

namespace Go.Proofs.Ytlpnklcnheafoaa
open Go.RowKit Go.Sort
set_option linter.unusedVariables false
set_option linter.unusedSimpArgs false

/-- A wide number in a block. -/
abbrev Holds2 (w : World) (b : Nat) (h l : Int) : Prop :=
  (w.cell? ⟨b, 0, none⟩ = some (.int .i64 h) ∧ w.cell? ⟨b, 1, none⟩ = some (.int .u64 l)) ∧ w.frozen? ⟨b, 0, none⟩ = false ∧ w.frozen? ⟨b, 1, none⟩ = false
theorem Holds2.call {w w1 : World} {b : Nat} {x y : Int} (h : Holds2 w b x y) (hb : Below w.heap.size w w1) : Holds2 w1 b x y := by
  obtain ⟨⟨h0, h1⟩, f0, f1⟩ := h
  have hl := World.block_lt_of_cell? w _ h0
  obtain ⟨kc, kf, -⟩ := bcell hb
  exact ⟨⟨(kc b 0 hl).trans h0, (kc b 1 hl).trans h1⟩, (kf b 0 hl).trans f0, (kf b 1 hl).trans f1⟩
theorem Holds2.more {w : World} {b : Nat} {x y : Int} (h : Holds2 w b x y) (o : Obj) : Holds2 (w.alloc o) b x y := h.call ((Below.refl _ _).alloc (Nat.le_refl _) _)
theorem own1 {W w1 : World} {x y : Int} {T : TypeId} (hb : Below (W.alloc (.cells #[.int .i64 x, .int .u64 y] T)).heap.size (W.alloc (.cells #[.int .i64 x, .int .u64 y] T)) w1) : Holds2 w1 W.heap.size x y :=
  Holds2.call (w := W.alloc (.cells #[.int .i64 x, .int .u64 y] T)) (by unfold Holds2; simp [go_sem]) hb
theorem own2 {W w1 : World} {x y : Int} {T : TypeId} {o : Obj} (hb : Below ((W.alloc (.cells #[.int .i64 x, .int .u64 y] T)).alloc o).heap.size ((W.alloc (.cells #[.int .i64 x, .int .u64 y] T)).alloc o) w1) : Holds2 w1 W.heap.size x y :=
  Holds2.call (w := (W.alloc (.cells #[.int .i64 x, .int .u64 y] T)).alloc o) (Holds2.call (w := W.alloc (.cells #[.int .i64 x, .int .u64 y] T)) (by unfold Holds2; simp [go_sem]) ((Below.refl _ _).alloc (Nat.le_refl _) _)) hb
theorem own3 {W w1 : World} {x y : Int} {T : TypeId} (hb : Below (W.alloc (.cells #[.int .i64 x, .int .u64 y] T)).drew.heap.size (W.alloc (.cells #[.int .i64 x, .int .u64 y] T)).drew w1) : Holds2 w1 W.heap.size x y :=
  Holds2.call (w := (W.alloc (.cells #[.int .i64 x, .int .u64 y] T)).drew) (by unfold Holds2; simp [go_sem]) hb

/-- The cells of a box. -/
abbrev Cells3 (B : Nat) (v : T3) (w : World) : Prop :=
  w.cell? ⟨B, 0, none⟩ = some (.int .i64 v.1) ∧ w.cell? ⟨B, 1, none⟩ = some (.int .i64 v.2.1) ∧ w.cell? ⟨B, 2, none⟩ = some (.int .i64 v.2.2)
theorem Cells3.call {w w1 : World} {b : Nat} {v : T3} (h : Cells3 b v w) (hb : Below w.heap.size w w1) : Cells3 b v w1 :=
  ⟨cell_call hb h.1, cell_call hb h.2.1, cell_call hb h.2.2⟩

theorem Cells3.put2 {w : World} {b g : Nat} {v : T3} (h : Cells3 b v w) (hne : b ≠ g) (x y : Value) : Cells3 b v ((w.setCell ⟨g, 0, none⟩ x).setCell ⟨g, 1, none⟩ y) := by
  obtain ⟨h0, h1, h2⟩ := h
  unfold Cells3
  simp (maxDischargeDepth := 9) [go_sem, h0, h1, h2, hne, Ne.symm hne]

/-- A variable that holds a wide number, and whether there is one. -/
def IsW (w : World) (S : Int) (ok : Bool) (p o : Value) (wx : World) : Prop :=
  ∃ g : Nat, p = .pointer (some ⟨g, 0, none⟩) ∧ o = .bool ok ∧ Holds2 wx g (wHi S) (wLo S) ∧ Below w.heap.size w wx

end Go.Proofs.Ytlpnklcnheafoaa

namespace Go.Proofs.Ytlpnklcnheafoaa
open Go.RowKit
set_option linter.unusedVariables false
set_option linter.unusedSimpArgs false

/-- The nearest number to a size with a sign. -/
def nearV (s : Int) (below big : Bool) : Int :=
  if below then (if big || decide (9223372036854775808 ≤ s) then -9223372036854775808 else -s)
  else (if big || decide (9223372036854775808 ≤ s) then 9223372036854775807 else s)
theorem nearV_clamp {S s : Int} {below big : Bool} (h0 : 0 ≤ S) (hs : big = false → s = S) (hb : big = true → 9223372036854775808 ≤ S) : nearV s below big = clampI (sgn below S) := by
  unfold nearV clampI sgn
  cases big <;> cases below <;> simp_all <;> (try split) <;> (try split) <;> omega



end Go.Proofs.Ytlpnklcnheafoaa

namespace Go.Proofs.Ytlpnklcnheafoaa
open Go.RowKit
set_option linter.unusedVariables false
set_option linter.unusedSimpArgs false

theorem wrap_i64' (n : Int) : IntKind.i64.wrap n = wrap64 n := IntWalk.i64_left n
theorem two_near {X Y Z : Int} (h0 : 0 ≤ X) (h1 : X ≤ 9223372036854775808) (h2 : 0 ≤ Y) (h3 : Y ≤ 9223372036854775808) (hZ : IntKind.u64.wrap (X + Y) = Z) (b : Bool) :
    nearV Z b (decide (Z < X)) = clampI (sgn b (X + Y)) ∧ 0 ≤ Z ∧ Z ≤ 18446744073709551615 := by
  rw [IntKind.wrap_u64] at hZ
  refine ⟨nearV_clamp (by omega) (by intro hb; have hb := of_decide_eq_false hb; omega) (by intro hb; have hb := of_decide_eq_true hb; omega), by omega, by omega⟩

end Go.Proofs.Ytlpnklcnheafoaa

namespace Go.Proofs.Ytlpnklcnheafoaa
open Go.RowKit
set_option linter.unusedVariables false
set_option linter.unusedSimpArgs false

theorem mid_bits {P : Int} (h0 : 0 ≤ P) (h1 : P ≤ 85070591730234615865843651857942052864) :
    bits BinOp.or IntKind.u64 (IntKind.u64.wrap (wHi P * 4294967296)) (wLo P / 4294967296) = P / 4294967296 % 18446744073709551616 := by
  have l := wLo_U P
  unfold InU at l
  have hh : 0 ≤ wHi P := by unfold wHi; omega
  have c : IntKind.u64.wrap (wHi P * 4294967296) = 2 ^ 32 * (wHi P % 4294967296) := by
    rw [IntKind.wrap_u64]
    show _ = 4294967296 * _
    omega
  have hor : ∀ a b : Int, 0 ≤ a → 0 ≤ b → a < 18446744073709551616 → b < 18446744073709551616 → bits BinOp.or IntKind.u64 a b = bits BinOp.or IntKind.u64 b a := by
    intro a b ha hb ha2 hb2
    rw [u64_or a b ha ha2 hb hb2, u64_or b a hb hb2 ha ha2, Nat.or_comm]
  have e : (2 : Int) ^ 32 = 4294967296 := rfl
  rw [c, hor _ _ (by rw [e]; omega) (by omega) (by rw [e]; omega) (by omega), or_add 32 _ _ (by omega) (by rw [e]; omega) (by omega) (by omega) (by rw [e]; omega), e]
  unfold wHi wLo
  omega
theorem times1 {P : Int} (h0 : 0 ≤ P) : nearV (P / 4294967296 % 18446744073709551616) false (decide (4294967296 ≤ wHi P)) = clampI (P / 4294967296) := by
  have := nearV_clamp (S := P / 4294967296) (s := P / 4294967296 % 18446744073709551616) (below := false) (big := decide (4294967296 ≤ wHi P)) (by omega) (by intro hb; have hb := of_decide_eq_false hb; unfold wHi at hb; omega) (by intro hb; have hb := of_decide_eq_true hb; unfold wHi at hb; omega)
  rw [this]; rfl
theorem times2 {P : Int} (h0 : 0 ≤ P) (hm : P % 4294967296 = 0) : nearV (P / 4294967296 % 18446744073709551616) true (decide (4294967296 ≤ wHi P)) = clampI (-P / 4294967296) := by
  have := nearV_clamp (S := P / 4294967296) (s := P / 4294967296 % 18446744073709551616) (below := true) (big := decide (4294967296 ≤ wHi P)) (by omega) (by intro hb; have hb := of_decide_eq_false hb; unfold wHi at hb; omega) (by intro hb; have hb := of_decide_eq_true hb; unfold wHi at hb; omega)
  rw [this]; unfold sgn; rw [if_pos rfl]; congr 1; omega
theorem times3 {P : Int} (h0 : 0 ≤ P) (hm : 0 < P % 4294967296) (hb : 4294967296 ≤ wHi P) (s : Int) : nearV s true true = clampI (-P / 4294967296) := by
  have := nearV_clamp (S := P / 4294967296 + 1) (s := s) (below := true) (big := true) (by omega) (by intro hb; cases hb) (by intro _; unfold wHi at hb; omega)
  rw [this]; unfold sgn; rw [if_pos rfl]; congr 1; omega
theorem times4 {P s1 : Int} (h0 : 0 ≤ P) (hm : 0 < P % 4294967296) (hb : ¬ 4294967296 ≤ wHi P) (hs : IntKind.u64.wrap (P / 4294967296 % 18446744073709551616 + 1) = s1) : nearV s1 true (s1 == 0) = clampI (-P / 4294967296) := by
  rw [IntKind.wrap_u64] at hs
  have := nearV_clamp (S := P / 4294967296 + 1) (s := s1) (below := true) (big := (s1 == 0)) (by omega) (by intro h; have h := beq_eq_false_iff_ne.1 h; unfold wHi at hb; omega) (by intro h; have h := beq_iff_eq.1 h; unfold wHi at hb; omega)
  rw [this]; unfold sgn; rw [if_pos rfl]; congr 1; omega

end Go.Proofs.Ytlpnklcnheafoaa

namespace Go.Proofs.Ytlpnklcnheafoaa
open Go.RowKit
set_option linter.unusedVariables false
set_option linter.unusedSimpArgs false

end Go.Proofs.Ytlpnklcnheafoaa

namespace Go.Proofs.Ytlpnklcnheafoaa
open Go.RowKit
set_option linter.unusedVariables false
set_option linter.unusedSimpArgs false

theorem sqN_0 : sqN 0 = 0 := by
  obtain ⟨⟨a, b, c⟩, -⟩ := sqN_root (x := 0) (by omega) (by omega)
  rcases ltge (sqN 0) 1 with g | g
  · omega
  · have := sq_mono (a := 1) (by omega) g
    omega
theorem SqInv.sum {x r : Int} {m : Nat} (h : SqInv x r (63 - m)) (hk : m < 64) : 0 ≤ r ∧ 0 < (2 : Int) ^ m ∧ r + 2 ^ m < 18446744073709551616 := by
  have hb := h.bound (by omega)
  rw [show 63 - (63 - m) = m by omega] at hb
  exact ⟨h.1, pow_pos' m, hb.2⟩
theorem SqInv.yes' {x r : Int} {m : Nat} (h : SqInv x r (63 - m)) (hk : m < 64) (hc : (r + 2 ^ m) * (r + 2 ^ m) ≤ x) : SqInv x (r + 2 ^ m) (63 - ((m : Int) - 1)).toNat := by
  have e : 63 - (63 - m) = m := by omega
  have := h.yes (by omega) (by rw [e]; exact hc)
  rw [e] at this
  rw [show (63 - ((m : Int) - 1)).toNat = 63 - m + 1 by omega]
  exact this
theorem SqInv.no' {x r : Int} {m : Nat} (h : SqInv x r (63 - m)) (hk : m < 64) (hc : ¬ (r + 2 ^ m) * (r + 2 ^ m) ≤ x) : SqInv x r (63 - ((m : Int) - 1)).toNat := by
  have e : 63 - (63 - m) = m := by omega
  have := h.no (by omega) (by rw [e]; exact hc)
  rw [show (63 - ((m : Int) - 1)).toNat = 63 - m + 1 by omega]
  exact this


end Go.Proofs.Ytlpnklcnheafoaa

namespace Go.Proofs.Ytlpnklcnheafoaa
open Go.RowKit Go.Sort
set_option linter.unusedVariables false
set_option linter.unusedSimpArgs false

def vT (a : T3) : Int := a.1 * a.1 + a.2.1 * a.2.1 + a.2.2 * a.2.2
def vlen (a : T3) : Int := if 85070591730234615865843651857942052864 ≤ vT a then 9223372036854775807 else sqN (vT a)
theorem sq_bd {x : Int} (h : InI x) : 0 ≤ x * x ∧ x * x ≤ 85070591730234615865843651857942052864 := by
  have := absU_mul_bound h h
  have e : absU x * absU x = x * x := absU_mul_pos (Iff.rfl)
  rw [e] at this
  exact this
theorem vT_bd {a : T3} (h : InV a) : 0 ≤ vT a ∧ vT a ≤ 255211775190703847597530955573826158592 := by
  have h0 := sq_bd h.1
  have h1 := sq_bd h.2.1
  have h2 := sq_bd h.2.2
  unfold vT
  omega
theorem sqN_small {T : Int} (h0 : 0 ≤ T) (h1 : T < 85070591730234615865843651857942052864) : 0 ≤ sqN T ∧ sqN T ≤ 9223372036854775807 := by
  obtain ⟨⟨r0, r1, r2⟩, h⟩ := sqN_root (x := T) h0 (by omega)
  refine ⟨r0, ?_⟩
  rcases ltge (sqN T) 9223372036854775808 with g | g
  · omega
  · have := sq_mono (a := 9223372036854775808) (by omega) g
    omega
theorem sqN_big {T : Int} (h0 : 85070591730234615865843651857942052864 ≤ T) (h1 : T < 340282366920938463463374607431768211456) : 9223372036854775808 ≤ sqN T ∧ sqN T ≤ 18446744073709551615 := by
  obtain ⟨⟨r0, r1, r2⟩, h⟩ := sqN_root (x := T) (by omega) (by omega)
  refine ⟨?_, by omega⟩
  rcases ltge (sqN T) 9223372036854775808 with g | g
  · have := sq_mono (a := sqN T + 1) (b := 9223372036854775808) (by omega) (by omega)
    omega
  · exact g
theorem vlen_I {a : T3} (h : InV a) : 0 ≤ vlen a ∧ vlen a ≤ 9223372036854775807 := by
  have hb := vT_bd h
  unfold vlen
  split
  · omega
  · exact sqN_small hb.1 (by omega)
theorem vlen_InI {a : T3} (h : InV a) : InI (vlen a) := by have := vlen_I h; unfold InI; omega

theorem sq_zero {x : Int} (h : x * x ≤ 0) : x = 0 := by
  rcases Int.lt_trichotomy x 0 with g | g | g
  · have := Int.mul_pos_of_neg_of_neg g g; omega
  · exact g
  · have := Int.mul_pos g g; omega
theorem vlen_zero {a : T3} (h : InV a) : vlen a = 0 ↔ a = zero3 := by
  have hb := vT_bd h
  have h0 := (sq_bd h.1).1
  have h1 := (sq_bd h.2.1).1
  have h2 := (sq_bd h.2.2).1
  constructor
  · intro e
    have eT : vT a = 0 := by
      unfold vlen at e
      split at e
      · omega
      · obtain ⟨⟨r0, r1, r2⟩, -⟩ := sqN_root (x := vT a) hb.1 (by omega)
        rw [e] at r2
        omega
    unfold vT at eT
    have e1 := sq_zero (x := a.1) (by omega)
    have e2 := sq_zero (x := a.2.1) (by omega)
    have e3 := sq_zero (x := a.2.2) (by omega)
    obtain ⟨x, y, z⟩ := a
    simp at e1 e2 e3
    subst e1 e2 e3
    rfl
  · intro e
    subst e
    have : vT zero3 = 0 := rfl
    unfold vlen
    rw [this, sqN_0]
    rfl

def vunit (a : T3) : T3 := (fdiv a.1 (vlen a), fdiv a.2.1 (vlen a), fdiv a.2.2 (vlen a))
theorem vunit_I (a : T3) : InV (vunit a) := ⟨fdiv_I _ _, fdiv_I _ _, fdiv_I _ _⟩
theorem vunit_zero : vunit zero3 = zero3 := by
  have e : vlen zero3 = 0 := (vlen_zero zero3_I).2 rfl
  unfold vunit
  rw [e]
  rfl

end Go.Proofs.Ytlpnklcnheafoaa

namespace Go.Proofs.Ytlpnklcnheafoaa
open Go.RowKit Go.Sort
set_option linter.unusedVariables false
set_option linter.unusedSimpArgs false

def clip (n : Int) : Int := min (max n (-1073741824)) 1073741824
theorem clip_bd (n : Int) : -1073741824 ≤ clip n ∧ clip n ≤ 1073741824 := by unfold clip; omega
theorem clip_sq {n : Int} (h : -1073741824 ≤ n ∧ n ≤ 1073741824) : 0 ≤ n * n ∧ n * n ≤ 1152921504606846976 := by
  constructor
  · rcases Int.le_total 0 n with g | g
    · exact Int.mul_nonneg g g
    · exact Int.mul_nonneg_of_nonpos_of_nonpos g g
  · rcases Int.le_total 0 n with g | g
    · have := Int.mul_le_mul h.2 h.2 g (by omega); omega
    · have := Int.mul_le_mul (show -n ≤ 1073741824 by omega) (show -n ≤ 1073741824 by omega) (show 0 ≤ -n by omega) (by omega)
      rw [Int.neg_mul_neg] at this
      omega
/-- The root of a place's square, times 2^32. -/
def vroot (p : T3) : Int := sqN ((clip p.1 * clip p.1 + clip p.2.1 * clip p.2.1 + clip p.2.2 * clip p.2.2) * 18446744073709551616)
def vtow (p : T3) : T3 := if vroot p = 0 then zero3 else (clip p.1 * 18446744073709551616 / vroot p, clip p.2.1 * 18446744073709551616 / vroot p, clip p.2.2 * 18446744073709551616 / vroot p)
theorem root_ge {S n : Int} (h0 : n * n ≤ S) (hS : S ≤ 4611686018427387903) : -(sqN (S * 18446744073709551616)) ≤ n * 4294967296 ∧ n * 4294967296 ≤ sqN (S * 18446744073709551616) := by
  have hn : 0 ≤ n * n := by
    rcases Int.le_total 0 n with g | g
    · exact Int.mul_nonneg g g
    · exact Int.mul_nonneg_of_nonpos_of_nonpos g g
  obtain ⟨⟨r0, r1, r2⟩, -⟩ := sqN_root (x := S * 18446744073709551616) (by omega) (by omega)
  generalize sqN (S * 18446744073709551616) = R at *
  have e1 : (n * 4294967296) * (n * 4294967296) = n * n * 18446744073709551616 := by grind
  constructor
  · rcases Int.lt_or_le (n * 4294967296) (-R) with g | g
    · exfalso
      have := sq_mono (a := R + 1) (b := -(n * 4294967296)) (by omega) (by omega)
      rw [Int.neg_mul_neg, e1] at this
      omega
    · exact g
  · rcases Int.lt_or_le R (n * 4294967296) with g | g
    · exfalso
      have := sq_mono (a := R + 1) (b := n * 4294967296) (by omega) (by omega)
      rw [e1] at this
      omega
    · exact g
theorem tow_q {n R : Int} (hR : 0 < R) (h1 : -R ≤ n * 4294967296) (h2 : n * 4294967296 ≤ R) : -4294967296 ≤ n * 18446744073709551616 / R ∧ n * 18446744073709551616 / R ≤ 4294967296 := by
  constructor
  · rw [Int.le_ediv_iff_mul_le hR]
    omega
  · have : n * 18446744073709551616 / R < 4294967297 := by
      rw [Int.ediv_lt_iff_lt_mul hR]
      omega
    omega
theorem vroot_bd (p : T3) : 0 ≤ vroot p ∧ vroot p ≤ 9223372036854775807 := by
  have h0 := clip_sq (clip_bd p.1)
  have h1 := clip_sq (clip_bd p.2.1)
  have h2 := clip_sq (clip_bd p.2.2)
  exact sqN_small (by omega) (by omega)
theorem vtow_parts (p : T3) (h : vroot p ≠ 0) : ∀ n, n = clip p.1 ∨ n = clip p.2.1 ∨ n = clip p.2.2 → -4294967296 ≤ n * 18446744073709551616 / vroot p ∧ n * 18446744073709551616 / vroot p ≤ 4294967296 := by
  intro n hn
  have h0 := clip_sq (clip_bd p.1)
  have h1 := clip_sq (clip_bd p.2.1)
  have h2 := clip_sq (clip_bd p.2.2)
  have hb := vroot_bd p
  have := root_ge (S := clip p.1 * clip p.1 + clip p.2.1 * clip p.2.1 + clip p.2.2 * clip p.2.2) (n := n) (by rcases hn with e | e | e <;> rw [e] <;> omega) (by omega)
  exact tow_q (by omega) this.1 this.2
theorem vtow_bd (p : T3) : (-4294967296 ≤ (vtow p).1 ∧ (vtow p).1 ≤ 4294967296) ∧ (-4294967296 ≤ (vtow p).2.1 ∧ (vtow p).2.1 ≤ 4294967296) ∧ (-4294967296 ≤ (vtow p).2.2 ∧ (vtow p).2.2 ≤ 4294967296) := by
  unfold vtow
  split
  · simp [zero3]
  · rename_i h
    exact ⟨vtow_parts p h _ (.inl rfl), vtow_parts p h _ (.inr (.inl rfl)), vtow_parts p h _ (.inr (.inr rfl))⟩
theorem vtow_I (p : T3) : InV (vtow p) := by
  have := vtow_bd p
  unfold InV InI
  omega

end Go.Proofs.Ytlpnklcnheafoaa

namespace Go.Proofs.Ytlpnklcnheafoaa
open Go.RowKit
set_option linter.unusedVariables false
set_option linter.unusedSimpArgs false

theorem divlo {X : Int} (h0 : 0 ≤ X) (h1 : X ≤ 9223372036854775808) : X / 4294967296 * 18446744073709551616 + IntKind.u64.wrap (X * 4294967296) = X * 4294967296 := by rw [IntKind.wrap_u64]; omega
theorem fdiv_sgn {a b X Y : Int} {sa sb : Bool} (hb : b ≠ 0) (hX : absU a = X) (hY : absU b = Y) (ha : decide (a < 0) = sa) (hs : decide (b < 0) = sb) : fdiv a b = clampI (sgn (!sa == sb) (dq (!sa == sb) (X * 4294967296) Y)) := by
  have e1 : decide (a * 4294967296 < 0) = sa := by rw [← ha]; congr 1; apply propext; omega
  have e2 : absU (a * 4294967296) = X * 4294967296 := by rw [← hX]; unfold absU; split <;> split <;> omega
  unfold fdiv
  rw [if_neg hb, (fq_dq hb).1, e1, e2, hY, hs]
theorem rdiv_p {P Y : Int} (h0 : 0 ≤ P / Y) : nearV (P / Y) false false = clampI (sgn false (dq false P Y)) := by
  have := nearV_clamp (S := P / Y) (s := P / Y) (below := false) (big := false) h0 (fun _ => rfl) (fun h => by cases h)
  rw [this]; rfl
theorem rdiv_z {P Y : Int} (h0 : 0 ≤ P / Y) (hr : P % Y = 0) : nearV (P / Y) true false = clampI (sgn true (dq true P Y)) := by
  have := nearV_clamp (S := P / Y) (s := P / Y) (below := true) (big := false) h0 (fun _ => rfl) (fun h => by cases h)
  rw [this]; unfold dq; rw [hr]; rfl
theorem rdiv_n {P Y s1 : Int} (h0 : 0 ≤ P / Y) (h1 : P / Y < 18446744073709551616) (hr : 0 < P % Y) (hs : IntKind.u64.wrap (P / Y + 1) = s1) : nearV s1 true (s1 == 0) = clampI (sgn true (dq true P Y)) := by
  rw [IntKind.wrap_u64] at hs
  have e : dq true P Y = P / Y + 1 := by unfold dq; rw [if_pos]; simp; omega
  rw [e]
  exact nearV_clamp (by omega) (by intro h; have h := beq_eq_false_iff_ne.1 h; omega) (by intro h; have h := beq_iff_eq.1 h; omega)
theorem rdiv_b {P Y : Int} (b : Bool) (h : 18446744073709551616 ≤ P / Y) : nearV 0 b true = clampI (sgn b (dq b P Y)) := by
  have e : P / Y ≤ dq b P Y := by unfold dq; split <;> omega
  exact nearV_clamp (by omega) (fun h => by cases h) (fun _ => by omega)

end Go.Proofs.Ytlpnklcnheafoaa

namespace Go.Proofs.Ytlpnklcnheafoaa
open Go.RowKit Go.Sort
set_option linter.unusedVariables false
set_option linter.unusedSimpArgs false

end Go.Proofs.Ytlpnklcnheafoaa

namespace Go.Proofs.Ytlpnklcnheafoaa
open Go.RowKit Go.Sort
set_option linter.unusedVariables false
set_option linter.unusedSimpArgs false

def vcross (a b : T3) : T3 := (satSub (fmul a.2.1 b.2.2) (fmul a.2.2 b.2.1), satSub (fmul a.2.2 b.1) (fmul a.1 b.2.2), satSub (fmul a.1 b.2.1) (fmul a.2.1 b.1))
theorem vcross_I (a b : T3) : InV (vcross a b) := ⟨satSub_I _ _, satSub_I _ _, satSub_I _ _⟩

theorem squares_num (A B C : Int) (hA : InU2 A) (hB : InU2 B) (hC : InU2 C) : ∃ L1 C1 H1 O1 L2 C2 H2 O2 : Int,
    (∀ w, (callFunc 45 #[.int .u64 (wLo A), .int .u64 (wLo B), .int .u64 0]).run Try.prog w = .ok (.value (.tuple #[.int .u64 L1, .int .u64 C1])) w) ∧
    (∀ w, (callFunc 45 #[.int .u64 (wHi A), .int .u64 (wHi B), .int .u64 C1]).run Try.prog w = .ok (.value (.tuple #[.int .u64 H1, .int .u64 O1])) w) ∧
    (∀ w, (callFunc 45 #[.int .u64 L1, .int .u64 (wLo C), .int .u64 0]).run Try.prog w = .ok (.value (.tuple #[.int .u64 L2, .int .u64 C2])) w) ∧
    (∀ w, (callFunc 45 #[.int .u64 H1, .int .u64 (wHi C), .int .u64 C2]).run Try.prog w = .ok (.value (.tuple #[.int .u64 H2, .int .u64 O2])) w) ∧
    0 ≤ O1 ∧ O1 ≤ 1 ∧ 0 ≤ O2 ∧ O2 ≤ 1 ∧ H2 = wHi ((A + B + C) % 340282366920938463463374607431768211456) ∧ L2 = wLo (A + B + C) ∧ (0 < O1 + O2 ↔ 340282366920938463463374607431768211456 ≤ A + B + C) := by
  have a1 := wLo_U A
  have b1 := wLo_U B
  have c1 := wLo_U C
  unfold InU at a1 b1 c1
  unfold InU2 at hA hB hC
  have a2 : 0 ≤ wHi A ∧ wHi A < 18446744073709551616 := by unfold wHi; omega
  have b2 : 0 ≤ wHi B ∧ wHi B < 18446744073709551616 := by unfold wHi; omega
  have c2 : 0 ≤ wHi C ∧ wHi C < 18446744073709551616 := by unfold wHi; omega
  obtain ⟨L1, eL1⟩ : ∃ L1, (wLo A + wLo B + 0) % 18446744073709551616 = L1 := ⟨_, rfl⟩
  obtain ⟨C1, eC1⟩ : ∃ C1, (wLo A + wLo B + 0) / 18446744073709551616 = C1 := ⟨_, rfl⟩
  obtain ⟨H1, eH1⟩ : ∃ H1, (wHi A + wHi B + C1) % 18446744073709551616 = H1 := ⟨_, rfl⟩
  obtain ⟨O1, eO1⟩ : ∃ O1, (wHi A + wHi B + C1) / 18446744073709551616 = O1 := ⟨_, rfl⟩
  obtain ⟨L2, eL2⟩ : ∃ L2, (L1 + wLo C + 0) % 18446744073709551616 = L2 := ⟨_, rfl⟩
  obtain ⟨C2, eC2⟩ : ∃ C2, (L1 + wLo C + 0) / 18446744073709551616 = C2 := ⟨_, rfl⟩
  obtain ⟨H2, eH2⟩ : ∃ H2, (H1 + wHi C + C2) % 18446744073709551616 = H2 := ⟨_, rfl⟩
  obtain ⟨O2, eO2⟩ : ∃ O2, (H1 + wHi C + C2) / 18446744073709551616 = O2 := ⟨_, rfl⟩
  refine ⟨L1, C1, H1, O1, L2, C2, H2, O2, ?_, ?_, ?_, ?_, ?_⟩
  · intro w; rw [add64 _ _ _ a1.1 b1.1 (by omega) (by omega), eL1, eC1]
  · intro w; rw [add64 _ _ _ a2.1 b2.1 (by omega) (by omega), eH1, eO1]
  · intro w; rw [add64 _ _ _ (by omega) c1.1 (by omega) (by omega), eL2, eC2]
  · intro w; rw [add64 _ _ _ (by omega) c2.1 (by omega) (by omega), eH2, eO2]
  · have sA := w_split A
    have sB := w_split B
    have sC := w_split C
    have d1 := Int.mul_ediv_add_emod (wLo A + wLo B + 0) 18446744073709551616
    have d2 := Int.mul_ediv_add_emod (wHi A + wHi B + C1) 18446744073709551616
    have d3 := Int.mul_ediv_add_emod (L1 + wLo C + 0) 18446744073709551616
    have d4 := Int.mul_ediv_add_emod (H1 + wHi C + C2) 18446744073709551616
    rw [eL1, eC1] at d1
    rw [eH1, eO1] at d2
    rw [eL2, eC2] at d3
    rw [eH2, eO2] at d4
    have hT : A + B + C = (O1 + O2) * 340282366920938463463374607431768211456 + H2 * 18446744073709551616 + L2 := by omega
    have l2 : 0 ≤ L2 ∧ L2 < 18446744073709551616 := by omega
    have m2 : 0 ≤ H2 ∧ H2 < 18446744073709551616 := by omega
    have n1 : 0 ≤ O1 ∧ O1 ≤ 1 := by omega
    have n2 : 0 ≤ O2 ∧ O2 ≤ 1 := by omega
    rw [hT]
    clear hT d1 d2 d3 d4 sA sB sC eL1 eC1 eH1 eO1 eL2 eC2 eH2 eO2 a1 b1 c1 a2 b2 c2 hA hB hC
    unfold wHi wLo
    omega

end Go.Proofs.Ytlpnklcnheafoaa

namespace Go.Proofs.Ytlpnklcnheafoaa
open Go.RowKit Go.Sort
set_option linter.unusedVariables false
set_option linter.unusedSimpArgs false

end Go.Proofs.Ytlpnklcnheafoaa
