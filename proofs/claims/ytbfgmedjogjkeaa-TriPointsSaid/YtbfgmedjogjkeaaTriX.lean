/- Plain law: on the grid nothing wraps; where a ray meets a triangle, in whole numbers. -/
import Derived.Test.YtbfgmedjogjkeaaG3c
namespace Go.Proofs.Ytbfgmedjogjkeaa
open Go.RowKit Go.Sort
set_option linter.unusedVariables false
set_option linter.unusedSimpArgs false

theorem mulBd {x y A B : Int} (hx : -A ≤ x ∧ x ≤ A) (hy : -B ≤ y ∧ y ≤ B) : -(A * B) ≤ x * y ∧ x * y ≤ A * B := by
  have h1 : x.natAbs ≤ A.toNat := by omega
  have h2 : y.natAbs ≤ B.toNat := by omega
  have h3 := Nat.mul_le_mul h1 h2
  rw [← Int.natAbs_mul] at h3
  have h4 : ((A.toNat * B.toNat : Nat) : Int) = A * B := by
    rw [Int.natCast_mul, Int.toNat_of_nonneg (by omega), Int.toNat_of_nonneg (by omega)]
  omega
def xsub (a b : T3) : T3 := (a.1 - b.1, a.2.1 - b.2.1, a.2.2 - b.2.2)
def xcross (a b : T3) : T3 := (a.2.1 * b.2.2 - a.2.2 * b.2.1, a.2.2 * b.1 - a.1 * b.2.2, a.1 * b.2.1 - a.2.1 * b.1)
def xdot (a b : T3) : Int := a.1 * b.1 + a.2.1 * b.2.1 + a.2.2 * b.2.2
def xN (o d p q r : T3) : Int := xdot (xsub r p) (xcross (xsub o p) (xsub q p))
def xD (o d p q r : T3) : Int := xdot (xsub q p) (xcross d (xsub r p))
def xU (o d p q r : T3) : Int := xdot (xsub o p) (xcross d (xsub r p))
def xV (o d p q r : T3) : Int := xdot d (xcross (xsub o p) (xsub q p))
/-- Each part lies in so much. -/
def inS (p : T3) (m : Int) : Prop := (-m ≤ p.1 ∧ p.1 ≤ m) ∧ (-m ≤ p.2.1 ∧ p.2.1 ≤ m) ∧ (-m ≤ p.2.2 ∧ p.2.2 ≤ m)
theorem inB_S {p : T3} {m : Int} : inB p m = true ↔ inS p m := by unfold inB inS; exact decide_eq_true_iff
theorem wrap_small {x : Int} (h : -4611686018427387904 ≤ x ∧ x ≤ 4611686018427387904) : wrap64 x = x := by unfold wrap64; omega
theorem tsub_x {a b : T3} (ha : inS a 65536) (hb : inS b 65536) : tsub a b = xsub a b ∧ inS (xsub a b) 131072 := by
  unfold inS at *
  refine ⟨?_, by unfold xsub; simp only; omega⟩
  unfold tsub xsub
  rw [wrap_small (by omega), wrap_small (by omega), wrap_small (by omega)]
theorem tcross_x {a b : T3} (ha : inS a 131072) (hb : inS b 131072) : tcross a b = xcross a b ∧ inS (xcross a b) 34359738368 := by
  obtain ⟨a1, a2, a3⟩ := ha
  obtain ⟨b1, b2, b3⟩ := hb
  have m1 := mulBd a2 b3
  have m2 := mulBd a3 b2
  have m3 := mulBd a3 b1
  have m4 := mulBd a1 b3
  have m5 := mulBd a1 b2
  have m6 := mulBd a2 b1
  unfold tcross xcross inS
  rw [wrap_small (by omega), wrap_small (by omega), wrap_small (by omega)]
  refine ⟨rfl, ?_⟩
  simp only
  omega
theorem wdot_x {a b : T3} (ha : inS a 131072) (hb : inS b 34359738368) : wdot a b = xdot a b ∧ (-13510798882111488 ≤ xdot a b ∧ xdot a b ≤ 13510798882111488) := by
  obtain ⟨a1, a2, a3⟩ := ha
  obtain ⟨b1, b2, b3⟩ := hb
  have m1 := mulBd a1 b1
  have m2 := mulBd a2 b2
  have m3 := mulBd a3 b3
  unfold wdot xdot
  rw [wrap_small (by omega)]
  omega
/-- The places are on the grid, and the ray is one. -/
def gridB (o d p q r : T3) : Bool := mayRay o d && (inB p 65536 && (inB q 65536 && inB r 65536))
theorem gridB_S {o d p q r : T3} (h : gridB o d p q r = true) : inS o 65536 ∧ inS d 131072 ∧ inS p 65536 ∧ inS q 65536 ∧ inS r 65536 := by
  unfold gridB mayRay at h
  simp only [Bool.and_eq_true, inB_S] at h
  exact ⟨h.1.1.1, h.1.1.2, h.2.1, h.2.2.1, h.2.2.2⟩
theorem raw_x {o d p q r : T3} (h : gridB o d p q r = true) : hitRaw o d p q r = (xN o d p q r, xD o d p q r, xU o d p q r, xV o d p q r) ∧
    (-13510798882111488 ≤ xN o d p q r ∧ xN o d p q r ≤ 13510798882111488) ∧ (-13510798882111488 ≤ xD o d p q r ∧ xD o d p q r ≤ 13510798882111488) ∧
    (-13510798882111488 ≤ xU o d p q r ∧ xU o d p q r ≤ 13510798882111488) ∧ (-13510798882111488 ≤ xV o d p q r ∧ xV o d p q r ≤ 13510798882111488) := by
  obtain ⟨ho, hd, hp, hq, hr⟩ := gridB_S h
  obtain ⟨e1, f1⟩ := tsub_x hr hp
  obtain ⟨e2, f2⟩ := tsub_x hq hp
  obtain ⟨e3, f3⟩ := tsub_x ho hp
  obtain ⟨e4, f4⟩ := tcross_x f3 f2
  obtain ⟨e5, f5⟩ := tcross_x hd f1
  have g1 := wdot_x f1 f4
  have g2 := wdot_x f2 f5
  have g3 := wdot_x f3 f5
  have g4 := wdot_x hd f4
  unfold hitRaw xN xD xU xV
  rw [e1, e2, e3, e4, e5, g1.1, g2.1, g3.1, g4.1]
  exact ⟨rfl, g1.2, g2.2, g3.2, g4.2⟩
/-- A ray meets a triangle. -/
def okX (n D u v : Int) : Prop := (0 < D ∧ 0 ≤ u ∧ 0 ≤ v ∧ u + v ≤ D ∧ 0 < n) ∨ (D < 0 ∧ u ≤ 0 ∧ v ≤ 0 ∧ D ≤ u + v ∧ n < 0)
instance (n D u v : Int) : Decidable (okX n D u v) := by unfold okX; exact inferInstance
theorem ok_x {n D u v : Int} (hn : -13510798882111488 ≤ n ∧ n ≤ 13510798882111488) (hD : -13510798882111488 ≤ D ∧ D ≤ 13510798882111488)
    (hu : -13510798882111488 ≤ u ∧ u ≤ 13510798882111488) (hv : -13510798882111488 ≤ v ∧ v ≤ 13510798882111488) : ¬ hitNo (hitSgn (n, D, u, v)) ↔ okX n D u v := by
  unfold hitSgn hitNo okX wneg
  by_cases h : D < 0
  · simp only [h, if_true]
    rw [wrap_small (by omega), wrap_small (by omega), wrap_small (by omega), wrap_small (by omega), wrap_small (by omega)]
    constructor
    · intro k; exact .inr ⟨trivial, by omega, by omega, by omega, by omega⟩
    · rintro (k | k)
      · omega
      · have := k.2; omega
  · simp only [h, if_false]
    rw [wrap_small (by omega)]
    constructor
    · intro k; omega
    · rintro (k | k)
      · omega
      · exact absurd k.1 (by simp)
theorem hitB_x (o d p q r : T3) : hitB o d p q r = true ↔ gridB o d p q r = true ∧ okX (xN o d p q r) (xD o d p q r) (xU o d p q r) (xV o d p q r) := by
  unfold hitB
  rw [Bool.and_eq_true, decide_eq_true_iff]
  change gridB o d p q r = true ∧ _ ↔ _
  constructor
  · rintro ⟨h, k⟩
    obtain ⟨e, b1, b2, b3, b4⟩ := raw_x h
    rw [e] at k
    exact ⟨h, (ok_x b1 b2 b3 b4).1 k⟩
  · rintro ⟨h, k⟩
    obtain ⟨e, b1, b2, b3, b4⟩ := raw_x h
    rw [e]
    exact ⟨h, (ok_x b1 b2 b3 b4).2 k⟩
theorem hitM_x {o d p q r : T3} (h : hitB o d p q r = true) : hitM o d p q r = (if xD o d p q r < 0 then (-xN o d p q r, -xD o d p q r, -xU o d p q r, -xV o d p q r) else (xN o d p q r, xD o d p q r, xU o d p q r, xV o d p q r)) := by
  obtain ⟨g, -⟩ := (hitB_x o d p q r).1 h
  obtain ⟨e, b1, b2, b3, b4⟩ := raw_x g
  unfold hitM
  rw [h, if_pos rfl, e]
  unfold hitSgn wneg
  simp only
  split
  · rw [wrap_small (by omega), wrap_small (by omega), wrap_small (by omega), wrap_small (by omega)]
  · rfl
theorem hitM_no {o d p q r : T3} (h : hitB o d p q r = false) : hitM o d p q r = (0, 0, 0, 0) := by unfold hitM; rw [h]; rfl
theorem rotD (o d p q r : T3) : xD o d q r p = xD o d p q r := by unfold xD xdot xcross xsub; simp only; grind
theorem rotN (o d p q r : T3) : xN o d q r p = xN o d p q r := by unfold xN xdot xcross xsub; simp only; grind
theorem rotU (o d p q r : T3) : xU o d q r p = xV o d p q r := by unfold xU xV xdot xcross xsub; simp only; grind
theorem rotV (o d p q r : T3) : xV o d q r p = xD o d p q r - xU o d p q r - xV o d p q r := by unfold xU xV xD xdot xcross xsub; simp only; grind
theorem swapD (o d p q r : T3) : xD o d p r q = -xD o d p q r := by unfold xD xdot xcross xsub; simp only; grind
theorem swapN (o d p q r : T3) : xN o d p r q = -xN o d p q r := by unfold xN xdot xcross xsub; simp only; grind
theorem swapU (o d p q r : T3) : xU o d p r q = -xV o d p q r := by unfold xU xV xdot xcross xsub; simp only; grind
theorem swapV (o d p q r : T3) : xV o d p r q = -xU o d p q r := by unfold xU xV xdot xcross xsub; simp only; grind
theorem gridRot (o d p q r : T3) : gridB o d q r p = gridB o d p q r := by
  unfold gridB
  cases mayRay o d <;> cases inB p 65536 <;> cases inB q 65536 <;> cases inB r 65536 <;> rfl
theorem gridSwap (o d p q r : T3) : gridB o d p r q = gridB o d p q r := by
  unfold gridB
  cases mayRay o d <;> cases inB p 65536 <;> cases inB q 65536 <;> cases inB r 65536 <;> rfl
theorem hitRot (o d p q r : T3) : hitB o d q r p = hitB o d p q r ∧ (hitM o d q r p).1 = (hitM o d p q r).1 ∧ (hitM o d q r p).2.1 = (hitM o d p q r).2.1 := by
  have e : hitB o d q r p = hitB o d p q r := by
    rw [Bool.eq_iff_iff, hitB_x, hitB_x, gridRot, rotD o d p q r, rotN o d p q r, rotU o d p q r, rotV o d p q r]
    unfold okX
    constructor
    · rintro ⟨h, k⟩; exact ⟨h, by omega⟩
    · rintro ⟨h, k⟩; exact ⟨h, by omega⟩
  refine ⟨e, ?_⟩
  cases h : hitB o d p q r
  · rw [hitM_no h, hitM_no (e.trans h)]; exact ⟨rfl, rfl⟩
  · rw [hitM_x h, hitM_x (e.trans h), rotD o d p q r, rotN o d p q r]
    split <;> exact ⟨rfl, rfl⟩
theorem hitSwap (o d p q r : T3) : hitB o d p r q = hitB o d p q r ∧ (hitM o d p r q).1 = (hitM o d p q r).1 ∧ (hitM o d p r q).2.1 = (hitM o d p q r).2.1 := by
  have e : hitB o d p r q = hitB o d p q r := by
    rw [Bool.eq_iff_iff, hitB_x, hitB_x, gridSwap, swapD o d p q r, swapN o d p q r, swapU o d p q r, swapV o d p q r]
    unfold okX
    constructor
    · rintro ⟨h, k⟩; exact ⟨h, by omega⟩
    · rintro ⟨h, k⟩; exact ⟨h, by omega⟩
  refine ⟨e, ?_⟩
  cases h : hitB o d p q r
  · rw [hitM_no h, hitM_no (e.trans h)]; exact ⟨rfl, rfl⟩
  · obtain ⟨-, k⟩ := (hitB_x o d p q r).1 h
    unfold okX at k
    rw [hitM_x h, hitM_x (e.trans h), swapD o d p q r, swapN o d p q r]
    by_cases hD : xD o d p q r < 0
    · rw [if_pos hD, if_neg (by omega)]; exact ⟨rfl, rfl⟩
    · rw [if_neg hD, if_pos (by omega)]; simp only; omega
/-- The whole-number law: where the ray is at num by det is the corners by their parts. -/
theorem exactX (o d p q r : T3) : xD o d p q r * o.1 + xN o d p q r * d.1 = (xD o d p q r - xU o d p q r - xV o d p q r) * p.1 + xU o d p q r * q.1 + xV o d p q r * r.1 := by unfold xU xV xN xD xdot xcross xsub; simp only; grind
theorem exactY (o d p q r : T3) : xD o d p q r * o.2.1 + xN o d p q r * d.2.1 = (xD o d p q r - xU o d p q r - xV o d p q r) * p.2.1 + xU o d p q r * q.2.1 + xV o d p q r * r.2.1 := by unfold xU xV xN xD xdot xcross xsub; simp only; grind
theorem exactZ (o d p q r : T3) : xD o d p q r * o.2.2 + xN o d p q r * d.2.2 = (xD o d p q r - xU o d p q r - xV o d p q r) * p.2.2 + xU o d p q r * q.2.2 + xV o d p q r * r.2.2 := by unfold xU xV xN xD xdot xcross xsub; simp only; grind

end Go.Proofs.Ytbfgmedjogjkeaa
