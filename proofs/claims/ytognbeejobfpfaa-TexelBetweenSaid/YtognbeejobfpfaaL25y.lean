/- Layer 25: what is sampled is the document's; in a texel's middle it is the texel's colour; it lies between the least and the greatest texel. -/
import Derived.Test.YtognbeejobfpfaaL25x
namespace Go.Proofs.Ytognbeejobfpfaa
open Go.RowKit Go.Sort
set_option linter.unusedVariables false
set_option linter.unusedSimpArgs false

theorem works25x : s_umbralaw25_works = true := by kernel_rfl
theorem w64 {n : Int} (h : InI n) : wrap64 n = n := by unfold InI at h; unfold wrap64; omega
theorem pb2 {x y X Y : Int} (hx : 0 ≤ x ∧ x ≤ X) (hy : 0 ≤ y ∧ y ≤ Y) : 0 ≤ x * y ∧ x * y ≤ X * Y := by
  have h1 := Int.mul_nonneg hx.1 hy.1
  have h2 := Int.mul_nonneg (show 0 ≤ X - x by omega) (show 0 ≤ Y by omega)
  have h3 := Int.mul_nonneg hx.1 (show 0 ≤ Y - y by omega)
  have e1 : (X - x) * Y = X * Y - x * Y := Int.sub_mul _ _ _
  have e2 : x * (Y - y) = x * Y - x * y := Int.mul_sub _ _ _
  omega
def In255 (x : T3) : Prop := (0 ≤ x.1 ∧ x.1 ≤ 255) ∧ (0 ≤ x.2.1 ∧ x.2.1 ≤ 255) ∧ (0 ≤ x.2.2 ∧ x.2.2 ≤ 255)
theorem L4_eq (side : Int) (l : List T3) : ∀ (f : Nat) (k : Int), L4_texture_Check side l f k = L4_umbraref14_Check side l f k
  | 0, _ => rfl
  | f + 1, k => by
    rw [L4_texture_Check, L4_umbraref14_Check]
    have ih := fun k => L4_eq side l f k
    generalize gd zero3 l k = p
    obtain ⟨p1, p2, p3⟩ := p
    simp only [lt, gmin_eq, gmax_eq, ih]
    repeat' split
    all_goals first | rfl | (exfalso; omega)
theorem chk_eq (side : Int) (l : List T3) : s_texture_Check side l = s_umbraref14_Check side l := by
  unfold s_texture_Check s_umbraref14_Check s_slices_Contains_g_v s_slices_Index_g_v
  simp only [lt, L4_eq]
  by_cases h1 : side = 1
  · simp [h1]
  · by_cases h2 : side = 2
    · simp [h2]
    · by_cases h4 : side = 4
      · simp [h4]
      · by_cases h8 : side = 8
        · simp [h8]
        · by_cases h16 : side = 16
          · simp [h16]
          · simp [h1, h2, h4, h8, h16]
theorem L4_rng (side : Int) (l : List T3) (hl : (l.length : Int) ≤ 1000) : ∀ (f : Nat) (k : Int), 0 ≤ k → (l.length : Int) - k < f → L4_texture_Check side l f k = 0 → ∀ i, k ≤ i → i < (l.length : Int) → In255 (gd zero3 l i)
  | 0, k, hk, hf, h, i, h1, h2 => by omega
  | f + 1, k, hk, hf, h, i, h1, h2 => by
    rw [L4_texture_Check] at h
    rw [if_pos (by omega)] at h
    simp only [lt, gmin_eq, gmax_eq] at h
    split at h
    · cases h
    · split at h
      · cases h
      · rw [wrI, w64 (by unfold InI; omega)] at h
        by_cases he : i = k
        · subst he
          unfold In255
          omega
        · exact L4_rng side l hl f (k + 1) (by omega) (by omega) h i (by omega) h2
theorem chk_rng {side : Int} {l : List T3} (hl : (l.length : Int) ≤ 1000) (h : s_texture_Check side l = 0) {i : Int} (hi : 0 ≤ i ∧ i < (l.length : Int)) : In255 (gd zero3 l i) := by
  have hs := check_sq h
  have h' := h
  unfold s_texture_Check at h'
  simp only [lt] at h'
  split at h'
  · split at h'
    · exact L4_rng side l hl _ 0 (by omega) (by omega) h' i hi.1 hi.2
    · cases h'
  · cases h'

def tx (side : Int) (l : List T3) (p q : Int) : T3 := gd zero3 l ((q % side) * side + p % side)
theorem tx_rng {side : Int} {l : List T3} (hl : (l.length : Int) ≤ 1000) (h : s_texture_Check side l = 0) (p q : Int) : In255 (tx side l p q) := by
  have hs := check_sq h
  have hb := grid_bd hs.1 (p := q) (q := p)
  exact chk_rng hl h ⟨hb.1, by rw [hs.2]; exact hb.2⟩
theorem at_val {side : Int} {l : List T3} (h : s_texture_Check side l = 0) (x y : Int) : s_texture_At side l x y = (tx side l x y, 0) := by
  have hs := check_sq h
  unfold s_texture_At s_texture_at
  simp only [lt]
  rw [if_pos h, mask_side (y := y) hs.1 rfl, mask_side (y := x) hs.1 rfl, wrI, wrI, grid_wr hs.1]
  rfl
theorem texel_val {side : Int} {l : List T3} (hs : SqT side l) (x y : Int) : s_umbraref14_Texel side l x y = tx side l x y := by
  unfold s_umbraref14_Texel
  simp only [lt]
  rw [mod_side hs.1, mod_side hs.1, wrI, wrI, grid_wr hs.1]
  rfl
theorem floor_val {n : Int} (h : InI n) : s_umbraref25_floor n = n / 65536 := by
  unfold s_umbraref25_floor
  simp only [lt, wrI]
  unfold InI at h
  have h1 := Int.mul_tdiv_add_tmod n 65536
  have h2 := Int.tmod_lt_of_pos n (show (0 : Int) < 65536 by omega)
  have h3 := Int.lt_tmod_of_pos n (show (0 : Int) < 65536 by omega)
  have h4 : 0 ≤ n → 0 ≤ Int.tmod n 65536 := fun h => Int.tmod_nonneg _ h
  generalize Int.tmod n 65536 = r at *
  generalize Int.tdiv n 65536 = q at *
  unfold wrap64
  split <;> omega
def smp (a b c0 c1 c2 c3 : Int) : Int := (c0 * ((65536 - a) * (65536 - b)) + c1 * (a * (65536 - b)) + c2 * ((65536 - a) * b) + c3 * (a * b)) / 255
theorem code_part {a b c0 c1 c2 c3 : Int} (ha : 0 ≤ a ∧ a ≤ 65535) (hb : 0 ≤ b ∧ b ≤ 65535) (h0 : 0 ≤ c0 ∧ c0 ≤ 255) (h1 : 0 ≤ c1 ∧ c1 ≤ 255) (h2 : 0 ≤ c2 ∧ c2 ≤ 255) (h3 : 0 ≤ c3 ∧ c3 ≤ 255) :
    wrap64 (Int.tdiv (wrap64 (wrap64 (wrap64 (wrap64 (0 + wrap64 (c0 * wrap64 (wrap64 (65536 - a) * wrap64 (65536 - b)))) + wrap64 (c1 * wrap64 (a * wrap64 (65536 - b)))) + wrap64 (c2 * wrap64 (wrap64 (65536 - a) * b))) + wrap64 (c3 * wrap64 (a * b)))) 255) = smp a b c0 c1 c2 c3 := by
  unfold smp
  rw [w64 (n := 65536 - a) (by unfold InI; omega), w64 (n := 65536 - b) (by unfold InI; omega)]
  have hp : 0 ≤ 65536 - a ∧ 65536 - a ≤ 65536 := by omega
  have hq : 0 ≤ 65536 - b ∧ 65536 - b ≤ 65536 := by omega
  have ha' : 0 ≤ a ∧ a ≤ 65536 := by omega
  have hb' : 0 ≤ b ∧ b ≤ 65536 := by omega
  generalize 65536 - a = p at *
  generalize 65536 - b = q at *
  have k0 := pb2 hp hq
  have k1 := pb2 ha' hq
  have k2 := pb2 hp hb'
  have k3 := pb2 ha' hb'
  rw [w64 (n := p * q) (by unfold InI; omega), w64 (n := a * q) (by unfold InI; omega), w64 (n := p * b) (by unfold InI; omega), w64 (n := a * b) (by unfold InI; omega)]
  generalize p * q = W0 at *
  generalize a * q = W1 at *
  generalize p * b = W2 at *
  generalize a * b = W3 at *
  have j0 := pb2 h0 k0
  have j1 := pb2 h1 k1
  have j2 := pb2 h2 k2
  have j3 := pb2 h3 k3
  generalize c0 * W0 = S0 at *
  generalize c1 * W1 = S1 at *
  generalize c2 * W2 = S2 at *
  generalize c3 * W3 = S3 at *
  simp only [show (255 : Int) * (65536 * 65536) = 1095216660480 by decide] at j0 j1 j2 j3
  rw [w64 (n := S0) (by unfold InI; omega), w64 (n := S1) (by unfold InI; omega), w64 (n := S2) (by unfold InI; omega), w64 (n := S3) (by unfold InI; omega), w64 (n := 0 + S0) (by unfold InI; omega), w64 (n := 0 + S0 + S1) (by unfold InI; omega), w64 (n := 0 + S0 + S1 + S2) (by unfold InI; omega),
    w64 (n := 0 + S0 + S1 + S2 + S3) (by unfold InI; omega), Int.tdiv_eq_ediv_of_nonneg (by omega), w64 (by unfold InI; omega), Int.zero_add]
theorem ref_part {a b c0 c1 c2 c3 : Int} (ha : 0 ≤ a ∧ a ≤ 65535) (hb : 0 ≤ b ∧ b ≤ 65535) (h0 : 0 ≤ c0 ∧ c0 ≤ 255) (h1 : 0 ≤ c1 ∧ c1 ≤ 255) (h2 : 0 ≤ c2 ∧ c2 ≤ 255) (h3 : 0 ≤ c3 ∧ c3 ≤ 255) :
    wrap64 (Int.tdiv (wrap64 (wrap64 (wrap64 (wrap64 (c0 * wrap64 (65536 - a)) + wrap64 (c1 * a)) * wrap64 (65536 - b)) + wrap64 (wrap64 (wrap64 (c2 * wrap64 (65536 - a)) + wrap64 (c3 * a)) * b))) 255) = smp a b c0 c1 c2 c3 := by
  have e : smp a b c0 c1 c2 c3 = ((c0 * (65536 - a) + c1 * a) * (65536 - b) + (c2 * (65536 - a) + c3 * a) * b) / 255 := by
    unfold smp
    congr 1
    generalize 65536 - a = p
    generalize 65536 - b = q
    grind
  rw [e]
  rw [w64 (n := 65536 - a) (by unfold InI; omega), w64 (n := 65536 - b) (by unfold InI; omega)]
  have hp : 0 ≤ 65536 - a ∧ 65536 - a ≤ 65536 := by omega
  have hq : 0 ≤ 65536 - b ∧ 65536 - b ≤ 65536 := by omega
  have ha' : 0 ≤ a ∧ a ≤ 65536 := by omega
  have hb' : 0 ≤ b ∧ b ≤ 65536 := by omega
  generalize 65536 - a = p at *
  generalize 65536 - b = q at *
  have k0 := pb2 h0 hp
  have k1 := pb2 h1 ha'
  have k2 := pb2 h2 hp
  have k3 := pb2 h3 ha'
  rw [w64 (n := c0 * p) (by unfold InI; omega), w64 (n := c1 * a) (by unfold InI; omega), w64 (n := c2 * p) (by unfold InI; omega), w64 (n := c3 * a) (by unfold InI; omega)]
  generalize c0 * p = W0 at *
  generalize c1 * a = W1 at *
  generalize c2 * p = W2 at *
  generalize c3 * a = W3 at *
  rw [w64 (n := W0 + W1) (by unfold InI; omega), w64 (n := W2 + W3) (by unfold InI; omega)]
  have j0 := pb2 (x := W0 + W1) (X := 33423360) (by omega) hq
  have j1 := pb2 (x := W2 + W3) (X := 33423360) (by omega) hb'
  generalize (W0 + W1) * q = S0 at *
  generalize (W2 + W3) * b = S1 at *
  rw [w64 (n := S0) (by unfold InI; omega), w64 (n := S1) (by unfold InI; omega), w64 (n := S0 + S1) (by unfold InI; omega), Int.tdiv_eq_ediv_of_nonneg (by omega), w64 (by unfold InI; omega)]

theorem side_X {side u : Int} (hs : side = 1 ∨ side = 2 ∨ side = 4 ∨ side = 8 ∨ side = 16) (hu : 0 ≤ u ∧ u ≤ 65535) :
    wrap64 (wrap64 (u * side) - 32768) = u * side - 32768 ∧ -32768 ≤ u * side - 32768 ∧ u * side - 32768 ≤ 1048576 := by
  have : 0 ≤ u * side ∧ u * side ≤ 1048560 := by rcases hs with h | h | h | h | h <;> subst h <;> omega
  refine ⟨?_, by omega, by omega⟩
  rw [w64 (n := u * side) (by unfold InI; omega), w64 (by unfold InI; omega)]
def sval (side : Int) (l : List T3) (X Y : Int) : T3 :=
  (smp (X % 65536) (Y % 65536) (tx side l (X / 65536) (Y / 65536)).1 (tx side l (X / 65536 + 1) (Y / 65536)).1 (tx side l (X / 65536) (Y / 65536 + 1)).1 (tx side l (X / 65536 + 1) (Y / 65536 + 1)).1,
   smp (X % 65536) (Y % 65536) (tx side l (X / 65536) (Y / 65536)).2.1 (tx side l (X / 65536 + 1) (Y / 65536)).2.1 (tx side l (X / 65536) (Y / 65536 + 1)).2.1 (tx side l (X / 65536 + 1) (Y / 65536 + 1)).2.1,
   smp (X % 65536) (Y % 65536) (tx side l (X / 65536) (Y / 65536)).2.2 (tx side l (X / 65536 + 1) (Y / 65536)).2.2 (tx side l (X / 65536) (Y / 65536 + 1)).2.2 (tx side l (X / 65536 + 1) (Y / 65536 + 1)).2.2)
theorem at1 {side : Int} {l : List T3} (h : s_texture_Check side l = 0) {X Y : Int} (hX : -32768 ≤ X ∧ X ≤ 1048576) (hY : -32768 ≤ Y ∧ Y ≤ 1048576) {i j : Int} (hi : 0 ≤ i ∧ i ≤ 1) (hj : 0 ≤ j ∧ j ≤ 1) :
    s_texel_Sample_1 side l X Y i j = tx side l (X / 65536 + i) (Y / 65536 + j) := by
  unfold s_texel_Sample_1
  simp only [lt]
  have e1 : Int.fdiv X (2 ^ 16) = X / 65536 := Int.fdiv_eq_ediv_of_nonneg _ (by decide)
  have e2 : Int.fdiv Y (2 ^ 16) = Y / 65536 := Int.fdiv_eq_ediv_of_nonneg _ (by decide)
  rw [e1, e2, wrI, wrI, w64 (by unfold InI; omega), w64 (by unfold InI; omega), at_val h]
theorem mask16 (x : Int) : bits .and .i64 x 65535 = x % 65536 := i64_mask 16 (by omega) x
theorem sample_ok {side : Int} {l : List T3} (hl : (l.length : Int) ≤ 1000) (h : s_texture_Check side l = 0) {u v : Int} (hu : 0 ≤ u ∧ u ≤ 65535) (hv : 0 ≤ v ∧ v ≤ 65535) :
    s_texel_Sample side l u v = (sval side l (u * side - 32768) (v * side - 32768), 0) := by
  have hs := check_sq h
  unfold s_texel_Sample
  simp only [lt, gmin_eq, gmax_eq]
  rw [if_pos h, if_neg (by omega), if_neg (by omega)]
  simp only [wrI]
  obtain ⟨x1, x2⟩ := side_X hs.1 hu
  obtain ⟨y1, y2⟩ := side_X hs.1 hv
  rw [x1, y1]
  generalize u * side - 32768 = X at *
  generalize v * side - 32768 = Y at *
  rw [at1 h x2 y2 (by omega) (by omega), at1 h x2 y2 (by omega) (by omega), at1 h x2 y2 (by omega) (by omega), at1 h x2 y2 (by omega) (by omega), mask16, mask16]
  simp only [Int.add_zero]
  obtain ⟨a1, a2, a3⟩ := tx_rng hl h (X / 65536) (Y / 65536)
  obtain ⟨b1, b2, b3⟩ := tx_rng hl h (X / 65536 + 1) (Y / 65536)
  obtain ⟨c1, c2, c3⟩ := tx_rng hl h (X / 65536) (Y / 65536 + 1)
  obtain ⟨d1, d2, d3⟩ := tx_rng hl h (X / 65536 + 1) (Y / 65536 + 1)
  have ha : 0 ≤ X % 65536 ∧ X % 65536 ≤ 65535 := by omega
  have hb : 0 ≤ Y % 65536 ∧ Y % 65536 ≤ 65535 := by omega
  rw [code_part ha hb a1 b1 c1 d1, code_part ha hb a2 b2 c2 d2, code_part ha hb a3 b3 c3 d3]
  rfl
theorem ref_ok {side : Int} {l : List T3} (hl : (l.length : Int) ≤ 1000) (h : s_texture_Check side l = 0) {u v : Int} (hu : 0 ≤ u ∧ u ≤ 65535) (hv : 0 ≤ v ∧ v ≤ 65535) :
    s_umbraref25_Sample side l u v = (sval side l (u * side - 32768) (v * side - 32768), 0) := by
  have hs := check_sq h
  have h' := h
  rw [chk_eq] at h'
  unfold s_umbraref25_Sample
  simp only [lt]
  rw [if_pos h', if_neg (by omega), if_neg (by omega), if_neg (by omega), if_neg (by omega)]
  simp only [wrI, texel_val hs]
  obtain ⟨x1, x2⟩ := side_X hs.1 hu
  obtain ⟨y1, y2⟩ := side_X hs.1 hv
  rw [x1, y1]
  generalize u * side - 32768 = X at *
  generalize v * side - 32768 = Y at *
  rw [floor_val (n := X) (by unfold InI; omega), floor_val (n := Y) (by unfold InI; omega)]
  rw [w64 (n := X / 65536 + 1) (by unfold InI; omega), w64 (n := Y / 65536 + 1) (by unfold InI; omega), w64 (n := 65536 * (X / 65536)) (by unfold InI; omega), w64 (n := 65536 * (Y / 65536)) (by unfold InI; omega)]
  have e1 : wrap64 (X - 65536 * (X / 65536)) = X % 65536 := by rw [w64 (by unfold InI; omega)]; omega
  have e2 : wrap64 (Y - 65536 * (Y / 65536)) = Y % 65536 := by rw [w64 (by unfold InI; omega)]; omega
  rw [e1, e2]
  obtain ⟨a1, a2, a3⟩ := tx_rng hl h (X / 65536) (Y / 65536)
  obtain ⟨b1, b2, b3⟩ := tx_rng hl h (X / 65536 + 1) (Y / 65536)
  obtain ⟨c1, c2, c3⟩ := tx_rng hl h (X / 65536) (Y / 65536 + 1)
  obtain ⟨d1, d2, d3⟩ := tx_rng hl h (X / 65536 + 1) (Y / 65536 + 1)
  have ha : 0 ≤ X % 65536 ∧ X % 65536 ≤ 65535 := by omega
  have hb : 0 ≤ Y % 65536 ∧ Y % 65536 ≤ 65535 := by omega
  rw [ref_part ha hb a1 b1 c1 d1, ref_part ha hb a2 b2 c2 d2, ref_part ha hb a3 b3 c3 d3]
  rfl
theorem sample_eq (side : Int) (l : List T3) (hl : (l.length : Int) ≤ 1000) (u v : Int) : s_texel_Sample side l u v = s_umbraref25_Sample side l u v := by
  by_cases h : s_texture_Check side l = 0
  · by_cases hu : (0 ≤ u ∧ u ≤ 65535) ∧ (0 ≤ v ∧ v ≤ 65535)
    · rw [sample_ok hl h hu.1 hu.2, ref_ok hl h hu.1 hu.2]
    · have h' := h
      rw [chk_eq] at h'
      have e1 : s_texel_Sample side l u v = ((0, 0, 0), 2) := by
        unfold s_texel_Sample
        simp only [lt, gmin_eq, gmax_eq]
        rw [if_pos h]
        split
        · rfl
        · rw [if_pos (by omega)]
      have e2 : s_umbraref25_Sample side l u v = ((0, 0, 0), 2) := by
        unfold s_umbraref25_Sample
        simp only [lt]
        rw [if_pos h']
        split
        · rfl
        · split
          · rfl
          · split
            · rfl
            · rw [if_pos (by omega)]
      rw [e1, e2]
  · have h' := h
    rw [chk_eq] at h'
    unfold s_texel_Sample s_umbraref25_Sample
    simp only [lt]
    rw [if_neg h, if_neg h', chk_eq]
theorem color_eq (c : T3) (m : Int) : s_texel_Color c m = s_umbraref25_Color c m := rfl
theorem take_le (l : List T3) : ((List.take (Int.toNat (gmin (List.length l : Int) 260)) l).length : Int) ≤ 1000 := by rw [List.length_take, gmin_eq]; omega
theorem TexelSamples_law (side : Int) (l : List T3) (two : Int × Int) (c : Int × Int × Int × Int) : s_umbralaw25_TexelSamples side l two c = true := by
  unfold s_umbralaw25_TexelSamples
  simp only [lt]
  rw [sample_eq _ _ (take_le l), if_pos rfl, if_pos rfl, if_pos (color_eq _ _), if_pos works25x]
end Go.Proofs.Ytognbeejobfpfaa
