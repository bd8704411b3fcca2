/- Plain numbers: what a code says has its own code; a code says nearly its direction. Contracts of octa in one form. -/
import Derived.Test.YtjhnkpapbjkbcaaOctaM
import Derived.Test.YtjhnkpapbjkbcaaGoC
import Derived.Test.YtjhnkpapbjkbcaaOctaC
import Derived.Test.YtjhnkpapbjkbcaaOctaR
import Derived.Test.YtjhnkpapbjkbcaaOctaQ
import Derived.Test.YtjhnkpapbjkbcaaN3t
namespace Go.Proofs.Ytjhnkpapbjkbcaa
open Go.RowKit Go.Sort
set_option linter.unusedVariables false
set_option linter.unusedSimpArgs false

def osum (p : T3) : Int := oabs p.1 + oabs p.2.1 + oabs p.2.2
theorem osg_bd' {b n m : Int} (h : -m ≤ n ∧ n ≤ m) : -m ≤ osg b n ∧ osg b n ≤ m := by unfold osg; split <;> omega
theorem oabs_osg' {b q : Int} (hq : 0 ≤ q) : oabs (osg b q) = q := by unfold oabs osg; split <;> split <;> omega
theorem decP_sum {a b : Int} (ha : -16384 ≤ a ∧ a ≤ 16384) (hb : -16384 ≤ b ∧ b ≤ 16384) : osum (decP a b) = 16384 ∧ mayB (decP a b) = true := by
  have h1 := oabs_bd ha
  have h2 := oabs_bd hb
  have key : osum (decP a b) = 16384 ∧ (-16384 ≤ (decP a b).1 ∧ (decP a b).1 ≤ 16384) ∧ (-16384 ≤ (decP a b).2.1 ∧ (decP a b).2.1 ≤ 16384) ∧ (-16384 ≤ (decP a b).2.2 ∧ (decP a b).2.2 ≤ 16384) := by
    unfold decP osum
    split
    · simp only
      rw [oabs_osg' (by omega), oabs_osg' (by omega)]
      refine ⟨?_, osg_bd' (by omega), osg_bd' (by omega), by omega, by omega⟩
      rw [oabs_neg (n := 16384 - oabs a - oabs b) (by omega)]
      omega
    · simp only
      rw [oabs_pos (n := 16384 - oabs a - oabs b) (by omega)]
      refine ⟨by omega, ha, hb, by omega, by omega⟩
  refine ⟨key.1, ?_⟩
  unfold mayB
  simp only [Bool.and_eq_true, decide_eq_true_eq]
  refine ⟨fun ⟨e1, e2, e3⟩ => ?_, key.2⟩
  have := key.1
  unfold osum at this
  rw [e1, e2, e3] at this
  revert this
  decide
theorem dec_may {c : Int} (hc : 0 ≤ c ∧ c ≤ 4294967295) : osum (dec c) = 16384 ∧ mayB (dec c) = true :=
  decP_sum (by unfold decA; omega) (by unfold decB; omega)
theorem pick_bd {x : Int} (hx : 0 ≤ x ∧ x ≤ 4294967295) : 0 ≤ pick x ∧ pick x ≤ 4294967295 := by
  have f1 : 0 ≤ x / 65536 ∧ x / 65536 ≤ 65535 := by omega
  have f2 : 0 ≤ x % 65536 ∧ x % 65536 ≤ 65535 := by omega
  have f3 : 0 ≤ x / 65536 * 32769 / 65536 ∧ x / 65536 * 32769 / 65536 ≤ 32768 := by omega
  have f4 : 0 ≤ x % 65536 * 32769 / 65536 ∧ x % 65536 * 32769 / 65536 ≤ 32768 := by omega
  unfold pick
  omega
theorem enc_range {p : T3} (h : mayB p = true) : 0 ≤ enc p ∧ enc p ≤ 4294967295 := by
  have := enc_bd h
  unfold enc
  omega
theorem dec_enc {p : T3} (h : mayB p = true) : dec (enc p) = decP (encA p) (encB p) := by
  obtain ⟨a, b⟩ := enc_bd h
  have e1 : decA (enc p) = encA p := by unfold decA enc; omega
  have e2 : decB (enc p) = encB p := by unfold decB enc; omega
  unfold dec
  rw [e1, e2]
theorem osg_self (n : Int) : osg n (oabs n) = n := by unfold osg oabs; split <;> omega
theorem back {p : T3} (h : mayB p = true) (hs : osum p = 16384) : decP (encA p) (encB p) = p := by
  obtain ⟨x, y, z⟩ := p
  have el : encL (x, y, z) = 16384 := hs
  unfold osum at hs
  simp only at hs
  have hx := fun b => @oabs_bd x b
  have nx : 0 ≤ oabs x := by unfold oabs; split <;> omega
  have ny : 0 ≤ oabs y := by unfold oabs; split <;> omega
  have nz : 0 ≤ oabs z := by unfold oabs; split <;> omega
  unfold encA encB encQ
  simp only
  rw [el, show 16384 * oabs x / 16384 = oabs x by omega, show 16384 * oabs y / 16384 = oabs y by omega]
  by_cases hz : z < 0
  · have ez := oabs_neg hz
    rw [if_pos hz, if_pos hz]
    unfold decP
    rw [oabs_osg' (by omega), oabs_osg' (by omega), if_pos (by omega)]
    have e1 : osg (osg x (16384 - oabs y)) (16384 - (16384 - oabs x)) = x := by
      rw [show 16384 - (16384 - oabs x) = oabs x by omega]
      have : osg (osg x (16384 - oabs y)) (oabs x) = osg x (oabs x) := by unfold osg; split <;> split <;> (try split) <;> omega
      rw [this, osg_self]
    have e2 : osg (osg y (16384 - oabs x)) (16384 - (16384 - oabs y)) = y := by
      rw [show 16384 - (16384 - oabs y) = oabs y by omega]
      have : osg (osg y (16384 - oabs x)) (oabs y) = osg y (oabs y) := by unfold osg; split <;> split <;> (try split) <;> omega
      rw [this, osg_self]
    rw [e1, e2]
    congr 2
    omega
  · have ez := oabs_pos hz
    rw [if_neg hz, if_neg hz, osg_self, osg_self]
    unfold decP
    rw [if_neg (by omega)]
    congr 2
    omega
/-- How near a code's direction is. -/
theorem div_near {n l : Int} (hl : 1 ≤ l) : 16384 * n / l * l ≤ 16384 * n ∧ 16384 * n < 16384 * n / l * l + l := by
  have h1 := Int.mul_ediv_add_emod (16384 * n) l
  have h2 := Int.emod_nonneg (16384 * n) (show l ≠ 0 by omega)
  have h3 := Int.emod_lt_of_pos (16384 * n) (show 0 < l by omega)
  rw [Int.mul_comm] at h1
  omega
theorem osg_near {x q l : Int} (hl : 1 ≤ l) (h1 : q * l ≤ 16384 * oabs x) (h2 : 16384 * oabs x < q * l + l) : -(2 * l) ≤ osg x q * l - x * 16384 ∧ osg x q * l - x * 16384 ≤ 2 * l := by
  unfold osg oabs at *
  split at h1 <;> rename_i s <;> simp only [s, if_true, if_false] at h2 ⊢
  · rw [Int.neg_mul]; omega
  · omega
theorem near5 {p : T3} (h : mayB p = true) : (-(2 * encL p) ≤ (dec (enc p)).1 * encL p - p.1 * 16384 ∧ (dec (enc p)).1 * encL p - p.1 * 16384 ≤ 2 * encL p) ∧
    (-(2 * encL p) ≤ (dec (enc p)).2.1 * encL p - p.2.1 * 16384 ∧ (dec (enc p)).2.1 * encL p - p.2.1 * 16384 ≤ 2 * encL p) ∧ (-(2 * encL p) ≤ (dec (enc p)).2.2 * encL p - p.2.2 * 16384 ∧ (dec (enc p)).2.2 * encL p - p.2.2 * 16384 ≤ 2 * encL p) := by
  rw [dec_enc h]
  obtain ⟨l1, l2, a, b, c⟩ := encL_bd h
  have q1 := quo_bd (n := oabs p.1) (l := encL p) a.1 (by unfold encL; omega) l1
  have q2 := quo_bd (n := oabs p.2.1) (l := encL p) b.1 (by unfold encL; omega) l1
  have d1 := div_near (n := oabs p.1) l1
  have d2 := div_near (n := oabs p.2.1) l1
  have hl : encL p = oabs p.1 + oabs p.2.1 + oabs p.2.2 := rfl
  obtain ⟨x, y, z⟩ := p
  unfold encA encB encQ
  simp only at *
  generalize encL (x, y, z) = l at *
  generalize hA : 16384 * oabs x / l = A at *
  generalize hB : 16384 * oabs y / l = B at *
  have n1 := osg_near (x := x) (q := A) l1 d1.1 d1.2
  have n2 := osg_near (x := y) (q := B) l1 d2.1 d2.2
  have e : (16384 - A - B) * l = 16384 * l - A * l - B * l := by rw [Int.sub_mul, Int.sub_mul]
  have e' : (A + B - 16384) * l = A * l + B * l - 16384 * l := by rw [Int.sub_mul, Int.add_mul]
  by_cases hz : z < 0
  · have ez := oabs_neg hz
    have hab : A + B < 16384 := by
      rcases Int.lt_or_le (A + B) 16384 with g | g
      · exact g
      · exfalso
        have := Int.mul_le_mul_of_nonneg_right g (show 0 ≤ l by omega)
        rw [Int.add_mul] at this
        omega
    rw [if_pos hz, if_pos hz]
    unfold decP
    rw [oabs_osg' (by omega), oabs_osg' (by omega), if_pos (by omega)]
    simp only
    have e1 : osg (osg x (16384 - B)) (16384 - (16384 - A)) = osg x A := by
      rw [show 16384 - (16384 - A) = A by omega]
      unfold osg; split <;> split <;> (try split) <;> omega
    have e2 : osg (osg y (16384 - A)) (16384 - (16384 - B)) = osg y B := by
      rw [show 16384 - (16384 - B) = B by omega]
      unfold osg; split <;> split <;> (try split) <;> omega
    rw [e1, e2, show 16384 - (16384 - B) - (16384 - A) = A + B - 16384 by omega, e']
    refine ⟨n1, n2, ?_⟩
    omega
  · have ez := oabs_pos hz
    have hab : A + B ≤ 16384 := by
      rcases Int.lt_or_le 16384 (A + B) with g | g
      · exfalso
        have := Int.mul_le_mul_of_nonneg_right (show 16385 ≤ A + B by omega) (show 0 ≤ l by omega)
        rw [Int.add_mul] at this
        omega
      · exact g
    rw [if_neg hz, if_neg hz]
    unfold decP
    rw [oabs_osg' (by omega), oabs_osg' (by omega), if_neg (by omega)]
    simp only
    rw [e]
    refine ⟨n1, n2, ?_⟩
    omega

end Go.Proofs.Ytjhnkpapbjkbcaa

namespace Go.Proofs.Ytjhnkpapbjkbcaa
open Go.RowKit Go.Sort
set_option linter.unusedVariables false
set_option linter.unusedSimpArgs false

theorem c_octa_Pick (x : Int) (hx : InU32 x) (w : World) : Calls Try.prog 69 #[.int .u32 x] w (Ret (.agg #[.int .i64 (pdir x).1, .int .i64 (pdir x).2.1, .int .i64 (pdir x).2.2]) w) := oPick x hx w

theorem c_umbraref05_Pick (x : Int) (hx : InU32 x) (w : World) : Calls Try.prog 72 #[.int .u32 x] w (Ret (.agg #[.int .i64 (pdir x).1, .int .i64 (pdir x).2.1, .int .i64 (pdir x).2.2]) w) := r5Pick x hx w

theorem pdir_may {x : Int} (hx : InU32 x) : mayB (pdir x) = true := by
  unfold InU32 at hx
  unfold pdir
  have : 0 ≤ pick x ∧ pick x ≤ 4294967295 := by
    have b1 : 0 ≤ x / 65536 * 32769 / 65536 ∧ x / 65536 * 32769 / 65536 ≤ 32768 := by omega
    have b2 : 0 ≤ x % 65536 * 32769 / 65536 ∧ x % 65536 * 32769 / 65536 ≤ 32768 := by omega
    unfold pick; omega
  exact (dec_may this).2
theorem may_I {p : T3} (h : mayB p = true) : (-16384 ≤ p.1 ∧ p.1 ≤ 16384) ∧ (-16384 ≤ p.2.1 ∧ p.2.1 ≤ 16384) ∧ (-16384 ≤ p.2.2 ∧ p.2.2 ≤ 16384) := by
  unfold mayB at h
  simp only [Bool.and_eq_true, decide_eq_true_eq] at h
  exact h.2
theorem pdir_I {x : Int} (hx : InU32 x) : InV (pdir x) := by
  have := may_I (pdir_may hx)
  unfold InV InI
  omega
def quantT (v : T3) : T3 × Int := (quant v, quantE v)

theorem c_octa_Quant (v : T3) (hv : InV v) (w : World) : Calls Try.prog 107 #[.agg #[.int .i64 v.1, .int .i64 v.2.1, .int .i64 v.2.2]] w (Ret (.tuple #[.agg #[.int .i64 (quantT v).1.1, .int .i64 (quantT v).1.2.1, .int .i64 (quantT v).1.2.2], .int .i64 (quantT v).2]) w) := oQuant v hv w

theorem r5QuantJ (v : T3) (hv : InV v) (w : World) : Calls Try.prog 109 #[V3 v.1 v.2.1 v.2.2] w (Ret (.tuple #[V3 (quant v).1 (quant v).2.1 (quant v).2.2, .int .i64 (quantE v)]) w) := by
  unfold quant quantE
  by_cases h : vmost v = 0
  · rw [if_pos h, if_pos h]; exact r5Quant_0 v hv (Lib.hid h) w
  · rw [if_neg h, if_neg h]
    have hb := vmost_bd hv
    exact r5Quant_1 v _ hv (Lib.hid rfl) (by omega) hb.2.1 w
theorem c_umbraref05_Quant (v : T3) (hv : InV v) (w : World) : Calls Try.prog 109 #[.agg #[.int .i64 v.1, .int .i64 v.2.1, .int .i64 v.2.2]] w (Ret (.tuple #[.agg #[.int .i64 (quantT v).1.1, .int .i64 (quantT v).1.2.1, .int .i64 (quantT v).1.2.2], .int .i64 (quantT v).2]) w) := r5QuantJ v hv w

theorem qpart_bd {x m : Int} (hm : 1 ≤ m) (h1 : -m - 1 ≤ x ∧ x ≤ m) : -16384 ≤ qpart x m ∧ qpart x m ≤ 16384 := by
  have q0 : -16384 * (m + 1) ≤ x * 16384 ∧ x * 16384 ≤ 16384 * m := by omega
  have e : x * 16384 / m ≤ 16384 := by
    have : x * 16384 / m < 16385 := by rw [Int.ediv_lt_iff_lt_mul (by omega)]; omega
    omega
  unfold qpart
  omega
theorem quantT_I {v : T3} (hv : InV v) : InV (quantT v).1 ∧ InI (quantT v).2 := by
  unfold quantT quant quantE
  simp only
  by_cases h : vmost v = 0
  · rw [if_pos h, if_pos h]; unfold zero3 InV InI; simp
  · rw [if_neg h, if_neg h]
    have hb := vmost_bd hv
    have a1 := qpart_bd (x := v.1) (m := vmost v) (by omega) (by omega)
    have a2 := qpart_bd (x := v.2.1) (m := vmost v) (by omega) (by omega)
    have a3 := qpart_bd (x := v.2.2) (m := vmost v) (by omega) (by omega)
    unfold InV InI
    simp only
    omega

theorem c_fix_Clamp (x lo hi : Int) (w : World) : Calls Try.prog 51 #[.int .i64 x, .int .i64 lo, .int .i64 hi] w (Ret (.int .i64 (fclamp x lo hi)) w) := (fClamp x lo hi w).mono fun _ _ h => h.ret

theorem c_octa_May (p : T3) (hp : InV p) (w : World) : Calls Try.prog 18 #[.agg #[.int .i64 p.1, .int .i64 p.2.1, .int .i64 p.2.2]] w (Ret (.bool (mayB p)) w) := oMay p.1 p.2.1 p.2.2 hp.1 hp.2.1 hp.2.2 w

end Go.Proofs.Ytjhnkpapbjkbcaa
