/- Layer 20: TriAimed holds. -/
import Derived.Test.YtbfgmedjogjkeaaL20g
import Derived.Test.YtbfgmedjogjkeaaL20c
namespace Go.Proofs.Ytbfgmedjogjkeaa
open Go.RowKit Go.Sort
set_option linter.unusedVariables false
set_option linter.unusedSimpArgs false

theorem sFarL_eq (p : T3) : s_umbralaw20_far p 32768 = !inB p 32768 := by
  have e : wrap64 (0 - 32768) = -32768 := by unfold wrap64; omega
  simp only [s_umbralaw20_far, lt, wrI, e, gmax_eq, gmin_eq, inB]
  rw [Bool.eq_iff_iff]
  simp only [Bool.not_eq_true', decide_eq_false_iff_not]
  split
  · simp; omega
  · split <;> simp <;> omega
def xtwice (p : T3) : T3 := (2 * p.1, 2 * p.2.1, 2 * p.2.2)
theorem twice_x {p : T3} (h : inS p 32768) : s_umbralaw20_TriAimed_1 p = xtwice p ∧ inS (xtwice p) 65536 := by
  unfold inS at *
  unfold s_umbralaw20_TriAimed_1 xtwice
  simp only [lt, wrI]
  rw [wrap_small (by omega), wrap_small (by omega), wrap_small (by omega)]
  refine ⟨rfl, ?_⟩
  omega
theorem mdN_same {d n : Int} (hd : InI d) (hn : 1 ≤ n) : mdN d n n = d := by
  unfold mdN fq
  rw [if_neg (by omega)]
  have : d * n / n = d := Int.mul_ediv_cancel d (by omega)
  first
    | rw [if_pos (by omega), this, clampI_in hd]
    | rw [this, clampI_in hd]
theorem clampG_in {x : Int} (h : -65536 ≤ x ∧ x ≤ 65536) : clampG x = x := by unfold clampG; rw [if_neg (by omega), if_neg (by omega)]
/-- A ray aimed at a place that it meets at num = det is there. -/
theorem aim {O t P Q R : T3} {T U V : Int} (hO : inS O 65536) (ht : inS t 65536) (hP : inS P 65536) (hQ : inS Q 65536) (hR : inS R 65536) (hT : T ≠ 0)
    (eN : xN O (xsub t O) P Q R = T) (eD : xD O (xsub t O) P Q R = T) (eU : xU O (xsub t O) P Q R = U) (eV : xV O (xsub t O) P Q R = V) (hk : okX T T U V) :
    ∃ m : M4, hitT O (tsub t O) (P, Q, R) = (m, true) ∧ m.1 = m.2.1 ∧ placeV O (tsub t O) m = t := by
  obtain ⟨e1, hd⟩ := tsub_x ht hO
  rw [e1]
  have hz : ¬ ((xsub t O).1 = 0 ∧ (xsub t O).2.1 = 0 ∧ (xsub t O).2.2 = 0) := by
    rintro ⟨z1, z2, z3⟩
    apply hT
    rw [← eD]
    unfold xD xdot xcross
    rw [z1, z2, z3]
    simp
  have hg : gridB O (xsub t O) P Q R = true := by
    unfold gridB mayRay
    simp only [Bool.and_eq_true, inB_S, decide_eq_true_eq]
    exact ⟨⟨⟨hO, hd⟩, hz⟩, hP, hQ, hR⟩
  have hb : hitB O (xsub t O) P Q R = true := (hitB_x _ _ _ _ _).2 ⟨hg, by rw [eN, eD, eU, eV]; exact hk⟩
  have hm := hitM_x hb
  rw [eN, eD, eU, eV] at hm
  have place : ∀ n u v : Int, 1 ≤ n → placeV O (xsub t O) (n, n, u, v) = t := by
    intro n u v hn
    unfold inS at *
    have p1 : ∀ a b : Int, (-65536 ≤ a ∧ a ≤ 65536) → (-131072 ≤ b - a ∧ b - a ≤ 131072) → (-65536 ≤ b ∧ b ≤ 65536) → partV a (b - a) (n, n, u, v) = b := by
      intro a b ha hab hb
      unfold partV
      simp only
      rw [if_neg (by omega), mdN_same (by unfold InI; omega) hn, show a + (b - a) = b by omega, clampG_in hb]
    unfold placeV
    have hx : (xsub t O).1 = t.1 - O.1 := rfl
    have hy : (xsub t O).2.1 = t.2.1 - O.2.1 := rfl
    have hzz : (xsub t O).2.2 = t.2.2 - O.2.2 := rfl
    rw [hx] at hd
    rw [hy] at hd
    rw [hzz] at hd
    rw [hx, hy, hzz, p1 _ _ hO.1 hd.1 ht.1, p1 _ _ hO.2.1 hd.2.1 ht.2.1, p1 _ _ hO.2.2 hd.2.2 ht.2.2]
  refine ⟨hitM O (xsub t O) P Q R, ?_, ?_, ?_⟩
  · unfold hitT
    simp only
    rw [hb]
  · rw [hm]; split <;> rfl
  · rw [hm]
    split
    · exact place _ _ _ (by omega)
    · exact place _ _ _ (by omega)
/-- Eight times what the law asks not to be 0. -/
def tri8 (o p q r : T3) : Int := 8 * xdot (xsub o p) (xcross (xsub q p) (xsub r p))
theorem a1N (o p q r : T3) : xN (xtwice o) (xsub (xtwice p) (xtwice o)) (xtwice p) (xtwice q) (xtwice r) = tri8 o p q r := by unfold xN tri8 xdot xcross xsub xtwice; simp only; grind
theorem a1D (o p q r : T3) : xD (xtwice o) (xsub (xtwice p) (xtwice o)) (xtwice p) (xtwice q) (xtwice r) = tri8 o p q r := by unfold xD tri8 xdot xcross xsub xtwice; simp only; grind
theorem a1U (o p q r : T3) : xU (xtwice o) (xsub (xtwice p) (xtwice o)) (xtwice p) (xtwice q) (xtwice r) = 0 := by unfold xU xdot xcross xsub xtwice; simp only; grind
theorem a1V (o p q r : T3) : xV (xtwice o) (xsub (xtwice p) (xtwice o)) (xtwice p) (xtwice q) (xtwice r) = 0 := by unfold xV xdot xcross xsub xtwice; simp only; grind
theorem a2N (o p q r : T3) : xN (xtwice o) (xsub (xtwice q) (xtwice o)) (xtwice p) (xtwice q) (xtwice r) = tri8 o p q r := by unfold xN tri8 xdot xcross xsub xtwice; simp only; grind
theorem a2D (o p q r : T3) : xD (xtwice o) (xsub (xtwice q) (xtwice o)) (xtwice p) (xtwice q) (xtwice r) = tri8 o p q r := by unfold xD tri8 xdot xcross xsub xtwice; simp only; grind
theorem a2U (o p q r : T3) : xU (xtwice o) (xsub (xtwice q) (xtwice o)) (xtwice p) (xtwice q) (xtwice r) = tri8 o p q r := by unfold xU tri8 xdot xcross xsub xtwice; simp only; grind
theorem a2V (o p q r : T3) : xV (xtwice o) (xsub (xtwice q) (xtwice o)) (xtwice p) (xtwice q) (xtwice r) = 0 := by unfold xV xdot xcross xsub xtwice; simp only; grind
theorem a3N (o p q r : T3) : xN (xtwice o) (xsub (xtwice r) (xtwice o)) (xtwice p) (xtwice q) (xtwice r) = tri8 o p q r := by unfold xN tri8 xdot xcross xsub xtwice; simp only; grind
theorem a3D (o p q r : T3) : xD (xtwice o) (xsub (xtwice r) (xtwice o)) (xtwice p) (xtwice q) (xtwice r) = tri8 o p q r := by unfold xD tri8 xdot xcross xsub xtwice; simp only; grind
theorem a3U (o p q r : T3) : xU (xtwice o) (xsub (xtwice r) (xtwice o)) (xtwice p) (xtwice q) (xtwice r) = 0 := by unfold xU xdot xcross xsub xtwice; simp only; grind
theorem a3V (o p q r : T3) : xV (xtwice o) (xsub (xtwice r) (xtwice o)) (xtwice p) (xtwice q) (xtwice r) = tri8 o p q r := by unfold xV tri8 xdot xcross xsub xtwice; simp only; grind
def xmid (q r : T3) : T3 := (q.1 + r.1, q.2.1 + r.2.1, q.2.2 + r.2.2)
def tri4 (o p q r : T3) : Int := 4 * xdot (xsub o p) (xcross (xsub q p) (xsub r p))
theorem a4N (o p q r : T3) : xN (xtwice o) (xsub (xmid q r) (xtwice o)) (xtwice p) (xtwice q) (xtwice r) = tri8 o p q r := by unfold xN tri8 xdot xcross xsub xtwice; simp only; grind
theorem a4D (o p q r : T3) : xD (xtwice o) (xsub (xmid q r) (xtwice o)) (xtwice p) (xtwice q) (xtwice r) = tri8 o p q r := by unfold xD tri8 xdot xcross xsub xtwice xmid; simp only; grind
theorem a4U (o p q r : T3) : xU (xtwice o) (xsub (xmid q r) (xtwice o)) (xtwice p) (xtwice q) (xtwice r) = tri4 o p q r := by unfold xU tri4 xdot xcross xsub xtwice xmid; simp only; grind
theorem a4V (o p q r : T3) : xV (xtwice o) (xsub (xmid q r) (xtwice o)) (xtwice p) (xtwice q) (xtwice r) = tri4 o p q r := by unfold xV tri4 xdot xcross xsub xtwice xmid; simp only; grind
theorem far_small {p : T3} (h : inS p 32768) : inS p 65536 := by unfold inS at *; omega
theorem TriAimed_true (o : T3) (p : T3 × T3 × T3) : s_umbralaw20_TriAimed o p = true := by
  obtain ⟨p, q, r⟩ := p
  unfold s_umbralaw20_TriAimed
  simp only [lt, works20_true, sFarL_eq, sSub_eq, sCross_eq, sDot_eq, if_true]
  cases h1 : inB o 32768
  · simp
  cases h2 : inB p 32768
  · simp
  cases h3 : inB q 32768
  · simp
  cases h4 : inB r 32768
  · simp
  simp only [Bool.not_true, Bool.false_eq_true, if_false]
  have so := inB_S.1 h1
  have sp := inB_S.1 h2
  have sq := inB_S.1 h3
  have sr := inB_S.1 h4
  by_cases hz : wdot (tsub o p) (tcross (tsub q p) (tsub r p)) = 0
  · rw [if_pos hz]
  rw [if_neg hz]
  have hT : xdot (xsub o p) (xcross (xsub q p) (xsub r p)) ≠ 0 := by
    obtain ⟨e1, f1⟩ := tsub_x (far_small so) (far_small sp)
    obtain ⟨e2, f2⟩ := tsub_x (far_small sq) (far_small sp)
    obtain ⟨e3, f3⟩ := tsub_x (far_small sr) (far_small sp)
    obtain ⟨e4, f4⟩ := tcross_x f2 f3
    have e5 := (wdot_x f1 f4).1
    rw [e1, e2, e3, e4, e5] at hz
    exact hz
  obtain ⟨eo, fo⟩ := twice_x so
  obtain ⟨ep, fp⟩ := twice_x sp
  obtain ⟨eq, fq'⟩ := twice_x sq
  obtain ⟨er, fr'⟩ := twice_x sr
  have em : ((IntKind.i64.wrap (q.1 + r.1), IntKind.i64.wrap (q.2.1 + r.2.1), IntKind.i64.wrap (q.2.2 + r.2.2)) : T3) = xmid q r := by
    unfold inS at sq sr
    rw [wrI, wrI, wrI, wrap_small (by omega), wrap_small (by omega), wrap_small (by omega)]
    rfl
  have fm : inS (xmid q r) 65536 := by
    unfold inS at *
    unfold xmid
    simp only
    omega
  rw [eo, ep, eq, er, em]
  have k8 : tri8 o p q r ≠ 0 := by unfold tri8; omega
  obtain ⟨m1, g1, i1, j1⟩ := aim fo fp fp fq' fr' k8 (a1N o p q r) (a1D o p q r) (a1U o p q r) (a1V o p q r) (by unfold okX; omega)
  obtain ⟨m2, g2, i2, j2⟩ := aim fo fq' fp fq' fr' k8 (a2N o p q r) (a2D o p q r) (a2U o p q r) (a2V o p q r) (by unfold okX; omega)
  obtain ⟨m3, g3, i3, j3⟩ := aim fo fr' fp fq' fr' k8 (a3N o p q r) (a3D o p q r) (a3U o p q r) (a3V o p q r) (by unfold okX; omega)
  obtain ⟨m4, g4, i4, j4⟩ := aim fo fm fp fq' fr' k8 (a4N o p q r) (a4D o p q r) (a4U o p q r) (a4V o p q r) (by unfold okX tri8 tri4 at *; omega)
  rw [g1, g2, g3, g4]
  simp only [if_true]
  rw [if_pos i1, if_pos j1, if_pos i2, if_pos j2, if_pos i3, if_pos j3, if_pos i4, if_pos j4]

end Go.Proofs.Ytbfgmedjogjkeaa
