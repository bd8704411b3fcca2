/- Layer 20: TriExact holds. -/
import Derived.Test.YtbfgmedjogjkeaaL20e
import Derived.Test.YtbfgmedjogjkeaaL20c
namespace Go.Proofs.Ytbfgmedjogjkeaa
open Go.RowKit Go.Sort
set_option linter.unusedVariables false
set_option linter.unusedSimpArgs false

theorem addW2 {a b : Int} (ha : -1000000000000000000000000000000000000 ≤ a ∧ a ≤ 1000000000000000000000000000000000000) (hb : -1000000000000000000000000000000000000 ≤ b ∧ b ≤ 1000000000000000000000000000000000000) : addW [a, b] = (a + b, true) := by
  unfold addW
  simp only [addL]
  rw [InWb_true (x := 0 + a) (by unfold InW; omega)]
  simp only [if_true]
  rw [InWb_true (x := 0 + a + b) (by unfold InW; omega)]
  simp
theorem addW3 {a b c : Int} (ha : -1000000000000000000000000000000000000 ≤ a ∧ a ≤ 1000000000000000000000000000000000000) (hb : -1000000000000000000000000000000000000 ≤ b ∧ b ≤ 1000000000000000000000000000000000000) (hc : -1000000000000000000000000000000000000 ≤ c ∧ c ≤ 1000000000000000000000000000000000000) : addW [a, b, c] = (a + b + c, true) := by
  unfold addW
  simp only [addL]
  rw [InWb_true (x := 0 + a) (by unfold InW; omega)]
  simp only [if_true]
  rw [InWb_true (x := 0 + a + b) (by unfold InW; omega)]
  simp only [if_true]
  rw [InWb_true (x := 0 + a + b + c) (by unfold InW; omega)]
  simp
/-- All of a meeting that is one. -/
theorem hit_full {o d p q r : T3} (h : hitB o d p q r = true) : ∃ n D u v : Int, hitM o d p q r = (n, D, u, v) ∧ (1 ≤ n ∧ n ≤ 13510798882111488) ∧ (1 ≤ D ∧ D ≤ 13510798882111488) ∧ 0 ≤ u ∧ 0 ≤ v ∧ u + v ≤ D ∧
    D * o.1 + n * d.1 = (D - u - v) * p.1 + u * q.1 + v * r.1 ∧ D * o.2.1 + n * d.2.1 = (D - u - v) * p.2.1 + u * q.2.1 + v * r.2.1 ∧ D * o.2.2 + n * d.2.2 = (D - u - v) * p.2.2 + u * q.2.2 + v * r.2.2 := by
  obtain ⟨g, k⟩ := (hitB_x o d p q r).1 h
  obtain ⟨-, b1, b2, b3, b4⟩ := raw_x g
  have hm := hitM_x h
  have ex := exactX o d p q r
  have ey := exactY o d p q r
  have ez := exactZ o d p q r
  generalize xN o d p q r = n at *
  generalize xD o d p q r = D at *
  generalize xU o d p q r = u at *
  generalize xV o d p q r = v at *
  unfold okX at k
  by_cases hD : D < 0
  · rw [if_pos hD] at hm
    refine ⟨-n, -D, -u, -v, hm, by omega, by omega, by omega, by omega, by omega, ?_, ?_, ?_⟩
    · rw [show -D - -u - -v = -(D - u - v) by omega]
      simp only [Int.neg_mul]
      omega
    · rw [show -D - -u - -v = -(D - u - v) by omega]
      simp only [Int.neg_mul]
      omega
    · rw [show -D - -u - -v = -(D - u - v) by omega]
      simp only [Int.neg_mul]
      omega
  · rw [if_neg hD] at hm
    exact ⟨n, D, u, v, hm, by omega, by omega, by omega, by omega, by omega, ex, ey, ez⟩
/-- One of the three checks. -/
theorem one_part {D n u v o d p q r : Int} (hn : 1 ≤ n ∧ n ≤ 13510798882111488) (hD : 1 ≤ D ∧ D ≤ 13510798882111488) (hu : 0 ≤ u) (hv : 0 ≤ v) (huv : u + v ≤ D) (ho : InI o) (hd : InI d) (hp : InI p) (hq : InI q) (hr : InI r)
    (e : D * o + n * d = (D - u - v) * p + u * q + v * r) : addW [D * o, n * d] = (D * o + n * d, true) ∧ addW [(D - u - v) * p, u * q, v * r] = (D * o + n * d, true) := by
  unfold InI at *
  have m1 := mulBd (x := D) (y := o) (A := 13510798882111488) (B := 9223372036854775808) (by omega) (by omega)
  have m2 := mulBd (x := n) (y := d) (A := 13510798882111488) (B := 9223372036854775808) (by omega) (by omega)
  have m3 := mulBd (x := D - u - v) (y := p) (A := 13510798882111488) (B := 9223372036854775808) (by omega) (by omega)
  have m4 := mulBd (x := u) (y := q) (A := 13510798882111488) (B := 9223372036854775808) (by omega) (by omega)
  have m5 := mulBd (x := v) (y := r) (A := 13510798882111488) (B := 9223372036854775808) (by omega) (by omega)
  refine ⟨addW2 (by omega) (by omega), ?_⟩
  rw [addW3 (by omega) (by omega) (by omega), e]
theorem TriExact_true (o d : T3) (p : T3 × T3 × T3) (ho : InV o) (hd : InV d) (hp : InV p.1 ∧ InV p.2.1 ∧ InV p.2.2) : s_umbralaw20_TriExact o d p = true := by
  obtain ⟨p, q, r⟩ := p
  obtain ⟨hp, hq, hr⟩ := hp
  unfold s_umbralaw20_TriExact
  simp only [lt, works20_true]
  unfold hitT
  simp only
  cases hb : hitB o d p q r
  · rw [hitM_no hb]
    simp
  · obtain ⟨n, D, u, v, hm, hn, hD, hu, hv, huv, ex, ey, ez⟩ := hit_full hb
    have e1 : IntKind.i64.wrap (D - u) = D - u := wr_id (by unfold InI; omega)
    have e2 : IntKind.i64.wrap (D - u - v) = D - u - v := wr_id (by unfold InI; omega)
    obtain ⟨x1, x2⟩ := one_part hn hD hu hv huv ho.1 hd.1 hp.1 hq.1 hr.1 ex
    obtain ⟨y1, y2⟩ := one_part hn hD hu hv huv ho.2.1 hd.2.1 hp.2.1 hq.2.1 hr.2.1 ey
    obtain ⟨z1, z2⟩ := one_part hn hD hu hv huv ho.2.2 hd.2.2 hp.2.2 hq.2.2 hr.2.2 ez
    rw [hm]
    simp only [e1, e2]
    rw [x1, x2, y1, y2, z1, z2]
    have c1 : ¬ D < 1 := by omega
    have c2 : ¬ n < 1 := by omega
    have c3 : ¬ u < 0 := by omega
    have c4 : ¬ v < 0 := by omega
    have c5 : ¬ D - u - v < 0 := by omega
    simp only [c1, c2, c3, c4, c5, if_true, if_false]

end Go.Proofs.Ytbfgmedjogjkeaa
