/- octa.Encode, umbraref05.Encode: every place. -/
import Derived.Test.YtbfgmedjogjkeaaOctaB
import Derived.Test.YtbfgmedjogjkeaaOctaR
namespace Go.Proofs.Ytbfgmedjogjkeaa
open Go.RowKit Go.Sort
set_option linter.unusedVariables false
set_option linter.unusedSimpArgs false

theorem oabs_osg {b q : Int} (hq : 0 ≤ q) : oabs (osg b q) = q := by unfold oabs osg; split <;> split <;> omega
theorem mayB_bd {x y z : Int} (h : mayB (x, y, z) = true) : (-16384 ≤ x ∧ x ≤ 16384) ∧ (-16384 ≤ y ∧ y ≤ 16384) ∧ (-16384 ≤ z ∧ z ≤ 16384) := by
  unfold mayB at h
  simp only [Bool.and_eq_true, decide_eq_true_eq] at h
  exact h.2
theorem tdivQ (n l : Int) : (16384 * n).tdiv l = encQ n l := by
  unfold encQ osg oabs
  split
  · exact tdiv_neg' (by assumption)
  · exact tdiv_pos' (by omega)
def encV (p : T3) : Int := if mayB p then enc p else 0
def encE (p : T3) : Int := if mayB p then 0 else 2
theorem oEnc_yes (x y z : Int) (hm : mayB (x, y, z) = true) (w : World) : Calls Try.prog 16 #[V3 x y z] w (Ret (.tuple #[.int .u32 (enc (x, y, z)), .int .i64 0]) w) := by
  obtain ⟨hx, hy, hz⟩ := mayB_bd hm
  obtain ⟨l1, -, a, b, c⟩ := encL_bd hm
  simp only at a b c
  have el : oabs x + oabs y + oabs z = encL (x, y, z) := rfl
  have q1 := quo_bd (n := oabs x) (l := encL (x, y, z)) a.1 (by omega) l1
  have q2 := quo_bd (n := oabs y) (l := encL (x, y, z)) b.1 (by omega) l1
  have A1 : -16384 ≤ encQ x (encL (x, y, z)) ∧ encQ x (encL (x, y, z)) ≤ 16384 := osg_bd (by omega)
  have B1 : -16384 ≤ encQ y (encL (x, y, z)) ∧ encQ y (encL (x, y, z)) ≤ 16384 := osg_bd (by omega)
  have oA : oabs (encQ x (encL (x, y, z))) = 16384 * oabs x / encL (x, y, z) := oabs_osg q1.1
  have oB : oabs (encQ y (encL (x, y, z))) = 16384 * oabs y / encL (x, y, z) := oabs_osg q2.1
  rcases Int.lt_or_le x 0 with s0 | s0 <;> rcases Int.lt_or_le y 0 with s1 | s1 <;> rcases Int.lt_or_le z 0 with s2 | s2
  · have := oEnc_NNN x y z (encL (x, y, z)) (encQ x (encL (x, y, z))) (encQ y (encL (x, y, z))) hm hx hy hz s0 s1 s2 (Lib.hid (by rw [← el, oabs_neg s0, oabs_neg s1, oabs_neg s2])) l1 (Lib.hid (tdivQ _ _)) (Lib.hid (tdivQ _ _)) A1 B1 w
    rw [oA, oB] at this
    have e : enc (x, y, z) = (-(16384 - 16384 * oabs y / encL (x, y, z)) + 16384) * 65536 + (-(16384 - 16384 * oabs x / encL (x, y, z)) + 16384) := by unfold enc encA encB osg; rw [if_pos s2, if_pos s2, if_pos s0, if_pos s1]
    rw [e]; exact this
  · have := oEnc_NNP x y z (encL (x, y, z)) (encQ x (encL (x, y, z))) (encQ y (encL (x, y, z))) hm hx hy hz s0 s1 s2 (Lib.hid (by rw [← el, oabs_neg s0, oabs_neg s1, oabs_pos (show ¬ z < 0 by omega)])) l1 (Lib.hid (tdivQ _ _)) (Lib.hid (tdivQ _ _)) A1 B1 w
    have e : enc (x, y, z) = (encQ x (encL (x, y, z)) + 16384) * 65536 + (encQ y (encL (x, y, z)) + 16384) := by unfold enc encA encB; rw [if_neg (show ¬ z < 0 by omega), if_neg (show ¬ z < 0 by omega)]
    rw [e]; exact this
  · have := oEnc_NPN x y z (encL (x, y, z)) (encQ x (encL (x, y, z))) (encQ y (encL (x, y, z))) hm hx hy hz s0 s1 s2 (Lib.hid (by rw [← el, oabs_neg s0, oabs_pos (show ¬ y < 0 by omega), oabs_neg s2])) l1 (Lib.hid (tdivQ _ _)) (Lib.hid (tdivQ _ _)) A1 B1 w
    rw [oA, oB] at this
    have e : enc (x, y, z) = (-(16384 - 16384 * oabs y / encL (x, y, z)) + 16384) * 65536 + (16384 - 16384 * oabs x / encL (x, y, z) + 16384) := by unfold enc encA encB osg; rw [if_pos s2, if_pos s2, if_pos s0, if_neg (Int.not_lt.2 s1)]
    rw [e]; exact this
  · have := oEnc_NPP x y z (encL (x, y, z)) (encQ x (encL (x, y, z))) (encQ y (encL (x, y, z))) hm hx hy hz s0 s1 s2 (Lib.hid (by rw [← el, oabs_neg s0, oabs_pos (show ¬ y < 0 by omega), oabs_pos (show ¬ z < 0 by omega)])) l1 (Lib.hid (tdivQ _ _)) (Lib.hid (tdivQ _ _)) A1 B1 w
    have e : enc (x, y, z) = (encQ x (encL (x, y, z)) + 16384) * 65536 + (encQ y (encL (x, y, z)) + 16384) := by unfold enc encA encB; rw [if_neg (show ¬ z < 0 by omega), if_neg (show ¬ z < 0 by omega)]
    rw [e]; exact this
  · have := oEnc_PNN x y z (encL (x, y, z)) (encQ x (encL (x, y, z))) (encQ y (encL (x, y, z))) hm hx hy hz s0 s1 s2 (Lib.hid (by rw [← el, oabs_pos (show ¬ x < 0 by omega), oabs_neg s1, oabs_neg s2])) l1 (Lib.hid (tdivQ _ _)) (Lib.hid (tdivQ _ _)) A1 B1 w
    rw [oA, oB] at this
    have e : enc (x, y, z) = (16384 - 16384 * oabs y / encL (x, y, z) + 16384) * 65536 + (-(16384 - 16384 * oabs x / encL (x, y, z)) + 16384) := by unfold enc encA encB osg; rw [if_pos s2, if_pos s2, if_neg (Int.not_lt.2 s0), if_pos s1]
    rw [e]; exact this
  · have := oEnc_PNP x y z (encL (x, y, z)) (encQ x (encL (x, y, z))) (encQ y (encL (x, y, z))) hm hx hy hz s0 s1 s2 (Lib.hid (by rw [← el, oabs_pos (show ¬ x < 0 by omega), oabs_neg s1, oabs_pos (show ¬ z < 0 by omega)])) l1 (Lib.hid (tdivQ _ _)) (Lib.hid (tdivQ _ _)) A1 B1 w
    have e : enc (x, y, z) = (encQ x (encL (x, y, z)) + 16384) * 65536 + (encQ y (encL (x, y, z)) + 16384) := by unfold enc encA encB; rw [if_neg (show ¬ z < 0 by omega), if_neg (show ¬ z < 0 by omega)]
    rw [e]; exact this
  · have := oEnc_PPN x y z (encL (x, y, z)) (encQ x (encL (x, y, z))) (encQ y (encL (x, y, z))) hm hx hy hz s0 s1 s2 (Lib.hid (by rw [← el, oabs_pos (show ¬ x < 0 by omega), oabs_pos (show ¬ y < 0 by omega), oabs_neg s2])) l1 (Lib.hid (tdivQ _ _)) (Lib.hid (tdivQ _ _)) A1 B1 w
    rw [oA, oB] at this
    have e : enc (x, y, z) = (16384 - 16384 * oabs y / encL (x, y, z) + 16384) * 65536 + (16384 - 16384 * oabs x / encL (x, y, z) + 16384) := by unfold enc encA encB osg; rw [if_pos s2, if_pos s2, if_neg (Int.not_lt.2 s0), if_neg (Int.not_lt.2 s1)]
    rw [e]; exact this
  · have := oEnc_PPP x y z (encL (x, y, z)) (encQ x (encL (x, y, z))) (encQ y (encL (x, y, z))) hm hx hy hz s0 s1 s2 (Lib.hid (by rw [← el, oabs_pos (show ¬ x < 0 by omega), oabs_pos (show ¬ y < 0 by omega), oabs_pos (show ¬ z < 0 by omega)])) l1 (Lib.hid (tdivQ _ _)) (Lib.hid (tdivQ _ _)) A1 B1 w
    have e : enc (x, y, z) = (encQ x (encL (x, y, z)) + 16384) * 65536 + (encQ y (encL (x, y, z)) + 16384) := by unfold enc encA encB; rw [if_neg (show ¬ z < 0 by omega), if_neg (show ¬ z < 0 by omega)]
    rw [e]; exact this
theorem r5Enc_yes (x y z : Int) (hm : mayB (x, y, z) = true) (w : World) : Calls Try.prog 17 #[V3 x y z] w (Ret (.tuple #[.int .u32 (enc (x, y, z)), .int .i64 0]) w) := by
  obtain ⟨hx, hy, hz⟩ := mayB_bd hm
  obtain ⟨l1, -, a, b, c⟩ := encL_bd hm
  simp only at a b c
  have el : oabs x + oabs y + oabs z = encL (x, y, z) := rfl
  have q1 := quo_bd (n := oabs x) (l := encL (x, y, z)) a.1 (by omega) l1
  have q2 := quo_bd (n := oabs y) (l := encL (x, y, z)) b.1 (by omega) l1
  have A1 : -16384 ≤ encQ x (encL (x, y, z)) ∧ encQ x (encL (x, y, z)) ≤ 16384 := osg_bd (by omega)
  have B1 : -16384 ≤ encQ y (encL (x, y, z)) ∧ encQ y (encL (x, y, z)) ≤ 16384 := osg_bd (by omega)
  have oA : oabs (encQ x (encL (x, y, z))) = 16384 * oabs x / encL (x, y, z) := oabs_osg q1.1
  have oB : oabs (encQ y (encL (x, y, z))) = 16384 * oabs y / encL (x, y, z) := oabs_osg q2.1
  rcases Int.lt_or_le z 0 with s2 | s2
  · have := r5Enc_N x y z (encL (x, y, z)) (encQ x (encL (x, y, z))) (encQ y (encL (x, y, z))) hm hx hy hz s2 (Lib.hid el) l1 (Lib.hid rfl) (Lib.hid rfl) A1 B1 q1 q2 w
    rw [oA, oB, Int.add_assoc] at this
    have e : enc (x, y, z) = (osg x (16384 - 16384 * oabs y / encL (x, y, z)) + 16384) * 65536 + (osg y (16384 - 16384 * oabs x / encL (x, y, z)) + 16384) := by unfold enc encA encB; rw [if_pos s2, if_pos s2]
    rw [e]; exact this
  · have := r5Enc_P x y z (encL (x, y, z)) (encQ x (encL (x, y, z))) (encQ y (encL (x, y, z))) hm hx hy hz s2 (Lib.hid el) l1 (Lib.hid rfl) (Lib.hid rfl) A1 B1 q1 q2 w
    rw [Int.add_assoc] at this
    have e : enc (x, y, z) = (encQ x (encL (x, y, z)) + 16384) * 65536 + (encQ y (encL (x, y, z)) + 16384) := by unfold enc encA encB; rw [if_neg (show ¬ z < 0 by omega), if_neg (show ¬ z < 0 by omega)]
    rw [e]; exact this
set_option maxRecDepth 100000 in
set_option maxHeartbeats 1600000 in
theorem oEnc_no (x y z : Int) (hx : InI x) (hy : InI y) (hz : InI z) (HM : Hid (mayB (x, y, z) = false)) (w : World) : Calls Try.prog 16 #[V3 x y z] w (Ret (.tuple #[.int .u32 0, .int .i64 2]) w) := by
  go_enter Try.func16, Try.ntmps16
  go_wp2_with fail
  refine (oMay x y z hx hy hz _).mono ?_; rintro e w1 ⟨rfl, hb1⟩
  have hB1 : Below w.heap.size w w1 := Below.next (by go_grown) hb1
  have d1_0 : w1.cell? ⟨w.heap.size, 0, none⟩ = some (.int .i64 x) := cell_call hb1 (by first | assumption | go_cell | simp [go_sem])
  have d1_1 : w1.cell? ⟨w.heap.size, 1, none⟩ = some (.int .i64 y) := cell_call hb1 (by first | assumption | go_cell | simp [go_sem])
  have d1_2 : w1.cell? ⟨w.heap.size, 2, none⟩ = some (.int .i64 z) := cell_call hb1 (by first | assumption | go_cell | simp [go_sem])
  have l1_0 := World.block_lt_of_cell? w1 _ d1_0
  have hS1 := hB1.size
  clear hb1
  rw [HM.out]
  go_wp2_with fail
  go_ret2
  exact ret_of rfl hB1

theorem oEnc (p : T3) (hp : InV p) (w : World) : Calls Try.prog 16 #[V3 p.1 p.2.1 p.2.2] w (Ret (.tuple #[.int .u32 (encV p), .int .i64 (encE p)]) w) := by
  obtain ⟨x, y, z⟩ := p
  unfold encV encE
  cases h : mayB (x, y, z)
  · exact oEnc_no x y z hp.1 hp.2.1 hp.2.2 (Lib.hid h) w
  · exact oEnc_yes x y z h w

set_option maxRecDepth 100000 in
set_option maxHeartbeats 1600000 in
theorem r5Enc_no (x y z : Int) (hx : InI x) (hy : InI y) (hz : InI z) (HM : Hid (mayB (x, y, z) = false)) (w : World) : Calls Try.prog 17 #[V3 x y z] w (Ret (.tuple #[.int .u32 0, .int .i64 2]) w) := by
  go_enter Try.func17, Try.ntmps17
  go_wp2_with fail
  refine (r5May x y z hx hy hz _).mono ?_; rintro e w1 ⟨rfl, hb1⟩
  have hB1 : Below w.heap.size w w1 := Below.next (by go_grown) hb1
  have d1_0 : w1.cell? ⟨w.heap.size, 0, none⟩ = some (.int .i64 x) := cell_call hb1 (by first | assumption | go_cell | simp [go_sem])
  have d1_1 : w1.cell? ⟨w.heap.size, 1, none⟩ = some (.int .i64 y) := cell_call hb1 (by first | assumption | go_cell | simp [go_sem])
  have d1_2 : w1.cell? ⟨w.heap.size, 2, none⟩ = some (.int .i64 z) := cell_call hb1 (by first | assumption | go_cell | simp [go_sem])
  have l1_0 := World.block_lt_of_cell? w1 _ d1_0
  have hS1 := hB1.size
  clear hb1
  rw [HM.out]
  go_wp2_with fail
  go_ret2
  exact ret_of rfl hB1

theorem r5Enc (p : T3) (hp : InV p) (w : World) : Calls Try.prog 17 #[V3 p.1 p.2.1 p.2.2] w (Ret (.tuple #[.int .u32 (encV p), .int .i64 (encE p)]) w) := by
  obtain ⟨x, y, z⟩ := p
  unfold encV encE
  cases h : mayB (x, y, z)
  · exact r5Enc_no x y z hp.1 hp.2.1 hp.2.2 (Lib.hid h) w
  · exact r5Enc_yes x y z h w

end Go.Proofs.Ytbfgmedjogjkeaa
