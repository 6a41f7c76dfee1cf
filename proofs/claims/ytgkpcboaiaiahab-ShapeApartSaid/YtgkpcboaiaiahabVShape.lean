/- The laws of the group Shape on the plain functions. No condition. -/
import Derived.Test.YtgkpcboaiaiahabMShape
import Derived.DataShut
namespace Go.Proofs.Ytgkpcboaiaiahab.V
open Go.RowKit Go.Proofs.Ytgkpcboaiaiahab.C Go.Proofs.Ytgkpcboaiaiahab.M Go.Proofs.YtgkpcboaiaiahabW.PrintWords
theorem wrap64_id {n : Int} (h0 : -9223372036854775808 ≤ n) (h1 : n ≤ 9223372036854775807) : wrap64 n = n := by unfold wrap64; omega
def cnt (n : Int) : Int := max 0 (min n 1125899906842624)
def byv (n : Int) : Int := max 1 (cnt n)
theorem cnt_id {n : Int} (h : 0 ≤ n) (h' : n ≤ 1125899906842624) : cnt n = n := by unfold cnt; omega
theorem counts_eq (n : Int) : ratio_counts.f n = some (cnt n) := by
  unfold ratio_counts.f ratio_Clamp.f cnt
  by_cases h1 : n > 1125899906842624
  · rw [if_pos h1]; simp only [Option.bind_some]; congr 1; omega
  · rw [if_neg h1]
    by_cases h2 : n < 0
    · rw [if_pos h2]; simp only [Option.bind_some]; congr 1; omega
    · rw [if_neg h2]; simp only [Option.bind_some]; congr 1; omega
theorem by_eq (n : Int) : ratio_by.f n = some (byv n) := by
  unfold ratio_by.f byv; rw [counts_eq]; simp only [Option.bind_some]
  by_cases h : cnt n < 1
  · rw [if_pos h]; congr 1; omega
  · rw [if_neg h]; congr 1; omega
theorem up_eq (a b : Int) (ha : 0 ≤ a) (ha' : a ≤ 1000000) (hb : 1 ≤ b) (hb' : b ≤ 1000000) : ratio_Up.f a b = some ((a + b - 1) / b) := by
  have h1 : cnt a = a := cnt_id ha (by omega)
  have h2 : byv b = b := by unfold byv; rw [cnt_id (by omega) (by omega)]; omega
  have h3 : 0 ≤ (a + b - 1) / b := Int.ediv_nonneg (by omega) (by omega)
  have h4 : (a + b - 1) / b ≤ a + b - 1 := Int.ediv_le_self _ (by omega)
  unfold ratio_Up.f; simp only [counts_eq, by_eq, h1, h2, Option.bind_some]
  rw [if_neg (by omega), wrap64_id (n := a + b) (by omega) (by omega), wrap64_id (n := a + b - 1) (by omega) (by omega), Int.tdiv_eq_ediv_of_nonneg (by omega), wrap64_id (by omega) (by omega)]
/-! ### the shape -/
/-- The most fields. -/
def mostv (w : Int) : Int := (w - 8) * (w - 1)
theorem mostv_bounds {w : Int} (h : 16 ≤ w) (h' : w ≤ 256) : 120 ≤ mostv w ∧ mostv w ≤ 63240 := by
  unfold mostv
  have h1 : 8 * 15 ≤ (w - 8) * (w - 1) := Int.mul_le_mul (by omega) (by omega) (by omega) (by omega)
  have h2 : (w - 8) * (w - 1) ≤ 248 * 255 := Int.mul_le_mul (by omega) (by omega) (by omega) (by omega)
  omega
theorem isWidth_eq (w : Int) : shape_isWidth.f w = some (decide (16 ≤ w ∧ w ≤ 256)) := by
  unfold shape_isWidth.f
  by_cases h : w ≥ 16
  · rw [if_pos h]; congr 1; exact decide_eq_decide.2 (by omega)
  · rw [if_neg h]; congr 1; exact (decide_eq_false (by omega)).symm
theorem most_eq {w : Int} (h : 16 ≤ w) (h' : w ≤ 256) : shape_most.f w = some (mostv w) := by
  have hb := mostv_bounds h h'
  unfold mostv at hb
  unfold shape_most.f shape_inHead.f shape_inLeaf.f mostv
  simp only [Option.bind_some]
  rw [wrap64_id (n := w - 8) (by omega) (by omega), wrap64_id (n := w - 1) (by omega) (by omega), wrap64_id (by omega) (by omega)]
def wrongv (w n : Int) : Int := if 16 ≤ w ∧ w ≤ 256 then (if 0 ≤ n ∧ n ≤ mostv w then 0 else 3) else 1
def wrong2v (w n m : Int) : Int := if 16 ≤ w ∧ w ≤ 256 then (if 0 ≤ n ∧ 0 ≤ m ∧ n + m ≤ mostv w then 0 else 3) else 1
theorem wrong2_eq (k : Nat) (w n m : Int) : shape_wrong.f (k + 3) w [n, m] = some (wrong2v w n m) := by
  unfold shape_wrong.f wrong2v
  rw [isWidth_eq]
  simp only [Option.bind_some, decide_eq_true_eq]
  by_cases h : 16 ≤ w ∧ w ≤ 256
  · rw [if_pos h, if_pos h, most_eq h.1 h.2]
    have hb := mostv_bounds h.1 h.2
    generalize mostv w = M at *
    simp only [Option.bind_some]
    rw [shape_wrong.lo0, if_pos (by simp), if_pos (by omega), show rd [n, m] 0 = n from rfl, show wrap64 (0 + 1) = 1 by unfold wrap64; omega]
    by_cases h1 : n < 0
    · rw [if_pos h1, if_neg (by omega)]; rfl
    · rw [if_neg h1]
      by_cases h2 : n > M
      · rw [if_pos h2, if_neg (by omega)]; rfl
      · rw [if_neg h2, wrap64_id (n := M - n) (by omega) (by omega), shape_wrong.lo0, if_pos (by simp), if_pos (by omega), show rd [n, m] 1 = m from rfl, show wrap64 (1 + 1) = 2 by unfold wrap64; omega]
        by_cases h3 : m < 0
        · rw [if_pos (by omega), if_neg (by omega)]; rfl
        · rw [if_neg (by omega)]
          by_cases h4 : m > M - n
          · rw [if_pos h4, if_neg (by omega)]; rfl
          · rw [if_neg h4, shape_wrong.lo0, if_neg (by simp), if_pos (by omega)]; rfl
  · rw [if_neg h, if_neg h]
theorem up_spec {x y L : Int} (hy : 1 ≤ y) (hL : L = (x + y - 1) / y) : L * y - y < x ∧ x ≤ L * y := by
  have e := Int.mul_ediv_add_emod (x + y - 1) y
  have h0 := Int.emod_nonneg (x + y - 1) (show y ≠ 0 by omega)
  have h1 := Int.emod_lt_of_pos (x + y - 1) (show 0 < y by omega)
  rw [← hL, Int.mul_comm] at e
  omega
def leavesv (w f : Int) : Int := if f ≤ w - 8 then 0 else (f + (w - 1) - 1) / (w - 1)
theorem leaves_spec {w f : Int} (h : 16 ≤ w) (h1 : f ≤ mostv w) :
    (f ≤ w - 8 ∧ leavesv w f = 0) ∨ (w - 8 < f ∧ 1 ≤ leavesv w f ∧ leavesv w f ≤ w - 8 ∧ leavesv w f * (w - 1) - (w - 1) < f ∧ f ≤ leavesv w f * (w - 1)) := by
  unfold leavesv
  by_cases hf : f ≤ w - 8
  · rw [if_pos hf]; exact .inl ⟨hf, rfl⟩
  · rw [if_neg hf]
    right
    have hs := up_spec (x := f) (y := w - 1) (by omega) rfl
    generalize (f + (w - 1) - 1) / (w - 1) = L at *
    refine ⟨by omega, ?_, ?_, hs.1, hs.2⟩
    · have : 0 * (w - 1) < L * (w - 1) := by omega
      have := Int.lt_of_mul_lt_mul_right this (by omega)
      omega
    · have : (L - 1) * (w - 1) < (w - 8) * (w - 1) := by unfold mostv at h1; rw [Int.sub_mul]; omega
      have := Int.lt_of_mul_lt_mul_right this (by omega)
      omega
theorem leaves_unique {w f L : Int} (h : 16 ≤ w) (hf : w - 8 < f) (h1 : f ≤ mostv w) (hL : L * (w - 1) - (w - 1) < f) (hL' : f ≤ L * (w - 1)) : leavesv w f = L := by
  rcases leaves_spec h h1 with ⟨a, _⟩ | ⟨_, _, _, a, b⟩
  · omega
  · generalize leavesv w f = M at *
    have e1 : (L - 1) * (w - 1) < M * (w - 1) := by rw [Int.sub_mul]; omega
    have e2 : (M - 1) * (w - 1) < L * (w - 1) := by rw [Int.sub_mul]; omega
    have := Int.lt_of_mul_lt_mul_right e1 (by omega)
    have := Int.lt_of_mul_lt_mul_right e2 (by omega)
    omega
theorem leaves_eq {w f : Int} (h : 16 ≤ w) (h' : w ≤ 256) (h0 : 0 ≤ f) (h1 : f ≤ mostv w) : shape_leaves.f w f = some (leavesv w f) := by
  have hb := mostv_bounds h h'
  unfold shape_leaves.f shape_inHead.f shape_inLeaf.f leavesv
  simp only [Option.bind_some]
  rw [wrap64_id (by omega) (by omega)]
  by_cases hf : f ≤ w - 8
  · rw [if_pos hf, if_pos hf]
  · rw [if_neg hf, if_neg hf, wrap64_id (by omega) (by omega), up_eq f (w - 1) (by omega) (by omega) (by omega) (by omega)]
    rfl
theorem blocks_eq (k : Nat) (w n m : Int) : shape_Blocks.f (k + 3) w n m = some (if wrong2v w n m = 0 then (1 + leavesv w (n + m), 0) else (0, wrong2v w n m)) := by
  unfold shape_Blocks.f
  rw [wrong2_eq]
  simp only [Option.bind_some]
  by_cases h : wrong2v w n m = 0
  · rw [if_pos h, if_pos h]
    unfold wrong2v at h
    split at h
    · rename_i hw
      split at h
      · rename_i hn
        have hb := mostv_bounds hw.1 hw.2
        have hl := leaves_spec (f := n + m) hw.1 hn.2.2
        rw [wrap64_id (by omega) (by omega), leaves_eq hw.1 hw.2 (by omega) hn.2.2]
        simp only [Option.bind_some]
        rw [wrap64_id (by omega) (by omega)]
      · omega
    · omega
  · rw [if_neg h, if_neg h]
/-! ### the document's answers -/
theorem Width_eq (w : Int) : quitrentref07_Width.f w = some (decide (16 ≤ w ∧ w ≤ 256)) := by
  unfold quitrentref07_Width.f
  by_cases h : w ≥ 16
  · rw [if_pos h]; congr 1; exact decide_eq_decide.2 (by omega)
  · rw [if_neg h]; congr 1; exact (decide_eq_false (by omega)).symm
theorem Fields_eq {w : Int} (h : 16 ≤ w) (h' : w ≤ 256) : quitrentref07_Fields.f w = some (mostv w) := by
  have hb := mostv_bounds h h'
  unfold mostv at hb
  unfold quitrentref07_Fields.f mostv
  rw [wrap64_id (n := w - 8) (by omega) (by omega), wrap64_id (n := w - 1) (by omega) (by omega), wrap64_id (by omega) (by omega)]
theorem Size_eq {w : Int} (n m : Int) (h : 16 ≤ w) (h' : w ≤ 256) : quitrentref07_Size.f w n m = some (decide (0 ≤ n ∧ 0 ≤ m ∧ n + m ≤ mostv w)) := by
  have hb := mostv_bounds h h'
  unfold quitrentref07_Size.f
  simp only [Fields_eq h h', Option.bind_some]
  generalize mostv w = M at *
  by_cases h1 : n ≥ 0
  · rw [if_pos h1]
    by_cases h2 : m ≥ 0
    · rw [if_pos h2]
      by_cases h3 : n ≤ M
      · rw [if_pos h3]
        by_cases h4 : m ≤ M
        · rw [if_pos h4, wrap64_id (by omega) (by omega)]; congr 1; exact decide_eq_decide.2 (by omega)
        · rw [if_neg h4]; congr 1; exact (decide_eq_false (by omega)).symm
      · rw [if_neg h3]; congr 1; exact (decide_eq_false (by omega)).symm
    · rw [if_neg h2]; congr 1; exact (decide_eq_false (by omega)).symm
  · rw [if_neg h1]; congr 1; exact (decide_eq_false (by omega)).symm
theorem Leaves_loop {w f L : Int} (h : 16 ≤ w) (h' : w ≤ 256) (hL1 : L ≤ 300) (hL : L * (w - 1) - (w - 1) < f) (hL' : f ≤ L * (w - 1)) :
    ∀ (d : Nat) (k : Nat) (n : Int), 0 ≤ n → n + d = L → d < k → quitrentref07_Leaves.lo0 k w f n = some L := by
  intro d
  induction d with
  | zero =>
    intro k n h0 hn hk
    obtain ⟨k, rfl⟩ : ∃ q, k = q + 1 := ⟨k - 1, by omega⟩
    obtain rfl : n = L := by omega
    have b : n * (w - 1) ≤ 300 * 255 := Int.mul_le_mul hL1 (by omega) (by omega) (by omega)
    have b0 : 0 ≤ n * (w - 1) := Int.mul_nonneg h0 (by omega)
    rw [quitrentref07_Leaves.lo0, wrap64_id (n := w - 1) (by omega) (by omega), wrap64_id (n := n * (w - 1)) (by omega) (by omega), if_neg (by omega)]
  | succ d ih =>
    intro k n h0 hn hk
    obtain ⟨k, rfl⟩ : ∃ q, k = q + 1 := ⟨k - 1, by omega⟩
    have b : n * (w - 1) ≤ 300 * 255 := Int.mul_le_mul (by omega) (by omega) (by omega) (by omega)
    have b0 : 0 ≤ n * (w - 1) := Int.mul_nonneg h0 (by omega)
    have b1 : n * (w - 1) ≤ (L - 1) * (w - 1) := Int.mul_le_mul_of_nonneg_right (by omega) (by omega)
    rw [Int.sub_mul] at b1
    rw [quitrentref07_Leaves.lo0, wrap64_id (n := w - 1) (by omega) (by omega), wrap64_id (n := n * (w - 1)) (by omega) (by omega), if_pos (by omega), wrap64_id (n := n + 1) (by omega) (by omega)]
    exact ih k (n + 1) (by omega) (by omega) (by omega)
theorem Leaves_eq {w f : Int} (k : Nat) (hk : 300 ≤ k) (h : 16 ≤ w) (h' : w ≤ 256) (h1 : f ≤ mostv w) : quitrentref07_Leaves.f k w f = some (leavesv w f) := by
  have hb := mostv_bounds h h'
  unfold quitrentref07_Leaves.f
  rw [wrap64_id (by omega) (by omega)]
  rcases leaves_spec h h1 with ⟨a, b⟩ | ⟨a, b, c, d, e⟩
  · rw [if_pos a, b]
  · rw [if_neg (by omega), Leaves_loop (L := leavesv w f) h h' (by omega) d e (leavesv w f).toNat k 0 (by omega) (by omega) (by omega)]
    rfl
theorem begun_eq : quitrentlaw07_begun.f 2000 = some true := by decide +kernel
theorem wide_eq (w : Int) : quitrentlaw07_wide.f w = some (decide (40 < w ∧ w ≤ 256)) := by
  unfold quitrentlaw07_wide.f
  by_cases h : w > 40
  · rw [if_pos h]; congr 1; exact decide_eq_decide.2 (by omega)
  · rw [if_neg h]; congr 1; exact (decide_eq_false (by omega)).symm
theorem wrong_eq (k : Nat) (w n : Int) : shape_wrong.f (k + 2) w [n] = some (wrongv w n) := by
  unfold shape_wrong.f wrongv
  rw [isWidth_eq]
  simp only [Option.bind_some, decide_eq_true_eq]
  by_cases h : 16 ≤ w ∧ w ≤ 256
  · rw [if_pos h, if_pos h, most_eq h.1 h.2]
    have hb := mostv_bounds h.1 h.2
    generalize mostv w = M at *
    simp only [Option.bind_some]
    rw [shape_wrong.lo0, if_pos (by simp), if_pos (by omega), show rd [n] 0 = n from rfl, show wrap64 (0 + 1) = 1 by unfold wrap64; omega]
    by_cases h1 : n < 0
    · rw [if_pos h1, if_neg (by omega)]; rfl
    · rw [if_neg h1]
      by_cases h2 : n > M
      · rw [if_pos h2, if_neg (by omega)]; rfl
      · rw [if_neg h2, shape_wrong.lo0, if_neg (by simp), if_pos (by omega)]; rfl
  · rw [if_neg h, if_neg h]
theorem Wrong_eq (w n : Int) : quitrentref07_wrong.f w n = some (wrongv w n) := by
  unfold quitrentref07_wrong.f wrongv
  rw [Width_eq]
  simp only [Option.bind_some, decide_eq_true_eq]
  by_cases h : 16 ≤ w ∧ w ≤ 256
  · rw [if_pos h, if_pos h, Size_eq n 0 h.1 h.2]
    simp only [Option.bind_some, decide_eq_true_eq]
    by_cases h1 : 0 ≤ n ∧ n ≤ mostv w
    · rw [if_pos (by omega), if_pos h1]
    · rw [if_neg (by omega), if_neg h1]
  · rw [if_neg h, if_neg h]
/-- What stands behind 'nothing is wrong'. -/
theorem wrongv_ok {w n : Int} (h : wrongv w n = 0) : 16 ≤ w ∧ w ≤ 256 ∧ 0 ≤ n ∧ n ≤ mostv w := by
  unfold wrongv at h
  split at h
  · rename_i hw
    split at h
    · rename_i hn; exact ⟨hw.1, hw.2, hn.1, hn.2⟩
    · omega
  · omega
def placev (w f i : Int) : Int × Int × Int :=
  if wrongv w f = 0 then (if i < 0 ∨ f ≤ i then (0, 0, 7) else if leavesv w f = 0 then (-1, 8 + i, 0) else (i / (w - 1), 1 + i % (w - 1), 0)) else (0, 0, wrongv w f)
theorem in_leaf {w i : Int} (h : 16 ≤ w) (h0 : 0 ≤ i) : 0 ≤ i / (w - 1) ∧ i / (w - 1) ≤ i ∧ 0 ≤ i % (w - 1) ∧ i % (w - 1) < w - 1 :=
  ⟨Int.ediv_nonneg h0 (by omega), Int.ediv_le_self _ h0, Int.emod_nonneg _ (by omega), Int.emod_lt_of_pos _ (by omega)⟩
theorem place_eq (k : Nat) (w f i : Int) : shape_Place.f (k + 2) w f i = some (placev w f i) := by
  unfold shape_Place.f placev
  rw [wrong_eq]
  simp only [Option.bind_some]
  by_cases h : wrongv w f = 0
  · rw [if_pos h, if_pos h]
    obtain ⟨hw, hw', hf, hf'⟩ := wrongv_ok h
    have hb := mostv_bounds hw hw'
    by_cases h1 : i < 0
    · rw [if_pos h1, if_pos (by omega)]
    · rw [if_neg h1]
      by_cases h2 : i ≥ f
      · rw [if_pos h2, if_pos (by omega)]
      · rw [if_neg h2, if_neg (show ¬ (i < 0 ∨ f ≤ i) by omega), leaves_eq hw hw' hf hf']
        have hi := in_leaf (i := i) hw (by omega)
        unfold shape_inLeaf.f
        simp only [Option.bind_some]
        rw [wrap64_id (n := w - 1) (by omega) (by omega), wrap64_id (n := 8 + i) (by omega) (by omega), Int.tdiv_eq_ediv_of_nonneg (by omega), Int.tmod_eq_emod_of_nonneg (by omega), wrap64_id (n := i / (w - 1)) (by omega) (by omega), wrap64_id (n := 1 + i % (w - 1)) (by omega) (by omega)]
        by_cases h3 : leavesv w f = 0
        · rw [if_pos h3, if_pos h3]
        · rw [if_neg h3, if_neg h3, if_neg (by omega), if_neg (by omega)]
  · rw [if_neg h, if_neg h]
theorem Place_eq (k : Nat) (hk : 300 ≤ k) (w f i : Int) : quitrentref07_Place.f k w f i = some (placev w f i) := by
  unfold quitrentref07_Place.f placev
  rw [Wrong_eq]
  simp only [Option.bind_some]
  by_cases h : wrongv w f = 0
  · rw [if_pos h, if_pos h]
    obtain ⟨hw, hw', hf, hf'⟩ := wrongv_ok h
    have hb := mostv_bounds hw hw'
    by_cases h1 : i < 0
    · rw [if_pos h1, if_pos (by omega)]
    · rw [if_neg h1]
      by_cases h2 : i ≥ f
      · rw [if_pos h2, if_pos (by omega)]
      · rw [if_neg h2, if_neg (show ¬ (i < 0 ∨ f ≤ i) by omega), Leaves_eq k hk hw hw' hf']
        have hi := in_leaf (i := i) hw (by omega)
        simp only [Option.bind_some]
        rw [wrap64_id (n := w - 1) (by omega) (by omega), wrap64_id (n := 8 + i) (by omega) (by omega), Int.tdiv_eq_ediv_of_nonneg (by omega), Int.tmod_eq_emod_of_nonneg (by omega), wrap64_id (n := i / (w - 1)) (by omega) (by omega), wrap64_id (n := 1 + i % (w - 1)) (by omega) (by omega)]
        by_cases h3 : leavesv w f = 0
        · rw [if_pos h3, if_pos h3]
        · rw [if_neg h3, if_neg h3, if_neg (by omega)]
  · rw [if_neg h, if_neg h]
def fullv (w f leaf : Int) : Int :=
  if wrongv w f = 0 then (if leaf < -1 then 0 else if leaf = -1 then (if leavesv w f = 0 then f else 0) else if leavesv w f ≤ leaf then 0 else min (w - 1) (f - leaf * (w - 1))) else 0
theorem full_in {w f leaf : Int} (h : 16 ≤ w) (h1 : f ≤ mostv w) (h2 : 0 ≤ leaf) (h3 : leaf < leavesv w f) : w - 8 < f ∧ 0 ≤ leaf * (w - 1) ∧ leaf * (w - 1) < f ∧ leavesv w f ≤ w - 8 ∧ leavesv w f * (w - 1) - (w - 1) < f ∧ f ≤ leavesv w f * (w - 1) := by
  rcases leaves_spec h h1 with ⟨_, e⟩ | ⟨a, _, b, c, d⟩
  · omega
  · have b1 : leaf * (w - 1) ≤ (leavesv w f - 1) * (w - 1) := Int.mul_le_mul_of_nonneg_right (by omega) (by omega)
    have b0 : 0 ≤ leaf * (w - 1) := Int.mul_nonneg h2 (by omega)
    rw [Int.sub_mul] at b1
    omega
theorem full_eq (k : Nat) (w f leaf : Int) : shape_Full.f (k + 2) w f leaf = some (fullv w f leaf) := by
  unfold shape_Full.f fullv
  rw [wrong_eq]
  simp only [Option.bind_some]
  by_cases h : wrongv w f = 0
  · rw [if_pos h, if_pos h]
    obtain ⟨hw, hw', hf, hf'⟩ := wrongv_ok h
    have hb := mostv_bounds hw hw'
    by_cases h1 : leaf < -1
    · rw [if_pos h1, if_pos h1]
    · rw [if_neg h1, if_neg h1, leaves_eq hw hw' hf hf']
      simp only [Option.bind_some]
      by_cases h2 : leaf = -1
      · simp only [if_pos h2]
        split <;> rfl
      · simp only [if_neg h2]
        by_cases h3 : leaf ≥ leavesv w f
        · rw [if_pos h3, if_pos h3]
        · rw [if_neg h3, if_neg (show ¬ (leavesv w f ≤ leaf) by omega)]
          have hx := full_in hw hf' (show 0 ≤ leaf by omega) (by omega)
          unfold shape_inLeaf.f
          simp only [Option.bind_some]
          rw [wrap64_id (n := w - 1) (by omega) (by omega), wrap64_id (n := leaf * (w - 1)) (by omega) (by omega), wrap64_id (n := f - leaf * (w - 1)) (by omega) (by omega)]
          by_cases h4 : f - leaf * (w - 1) < w - 1
          · rw [if_pos h4]; congr 1; omega
          · rw [if_neg h4]; congr 1; omega
  · rw [if_neg h, if_neg h]
theorem div_is {m i q : Int} (hm : 0 < m) : i / m = q ↔ q * m ≤ i ∧ i < q * m + m := by
  rw [Int.ediv_eq_iff_of_pos hm]
theorem Full_loop0 {w f leaf : Int} (h : wrongv w f = 0) (hl : leavesv w f = 0) (hf : f ≤ 1400) : ∀ (d k : Nat) (x i : Int), 0 ≤ i → i + d = f → 0 ≤ x → x ≤ i → d + 301 < k →
    quitrentref07_Full.lo0 k w f leaf x i = some (if leaf = -1 then x + (f - i) else x) := by
  intro d
  induction d with
  | zero =>
    intro k x i h0 hi hx hx' hk
    obtain ⟨k, rfl⟩ : ∃ q, k = q + 1 := ⟨k - 1, by omega⟩
    rw [quitrentref07_Full.lo0, if_neg (by omega)]
    split
    · congr 1; omega
    · rfl
  | succ d ih =>
    intro k x i h0 hi hx hx' hk
    obtain ⟨k, rfl⟩ : ∃ q, k = q + 1 := ⟨k - 1, by omega⟩
    rw [quitrentref07_Full.lo0, if_pos (by omega), Place_eq k (by omega)]
    simp only [Option.bind_some, placev, if_pos h, if_neg (show ¬ (i < 0 ∨ f ≤ i) by omega), if_pos hl]
    rw [wrap64_id (n := x + 1) (by omega) (by omega), wrap64_id (n := i + 1) (by omega) (by omega)]
    by_cases hh : leaf = -1
    · rw [if_pos hh.symm, ih k (x + 1) (i + 1) (by omega) (by omega) (by omega) (by omega) (by omega), if_pos hh, if_pos hh]
      congr 1; omega
    · rw [if_neg (fun e => hh e.symm), ih k x (i + 1) (by omega) (by omega) (by omega) (by omega) (by omega), if_neg hh, if_neg hh]
theorem Full_loop1 {w f leaf : Int} (h : wrongv w f = 0) (hl : leavesv w f ≠ 0) (hf : f ≤ 1400) : ∀ (d k : Nat) (x i : Int), 0 ≤ i → i + d = f → 0 ≤ x → x ≤ i → d + 301 < k →
    quitrentref07_Full.lo0 k w f leaf x i = some (x + max 0 (min f (leaf * (w - 1) + (w - 1)) - max i (leaf * (w - 1)))) := by
  obtain ⟨hw, hw', hf0, hf'⟩ := wrongv_ok h
  intro d
  induction d with
  | zero =>
    intro k x i h0 hi hx hx' hk
    obtain ⟨k, rfl⟩ : ∃ q, k = q + 1 := ⟨k - 1, by omega⟩
    rw [quitrentref07_Full.lo0, if_neg (by omega)]
    congr 1
    omega
  | succ d ih =>
    intro k x i h0 hi hx hx' hk
    obtain ⟨k, rfl⟩ : ∃ q, k = q + 1 := ⟨k - 1, by omega⟩
    rw [quitrentref07_Full.lo0, if_pos (by omega), Place_eq k (by omega)]
    simp only [Option.bind_some, placev, if_pos h, if_neg (show ¬ (i < 0 ∨ f ≤ i) by omega), if_neg hl]
    rw [wrap64_id (n := x + 1) (by omega) (by omega), wrap64_id (n := i + 1) (by omega) (by omega)]
    have hd := div_is (m := w - 1) (i := i) (q := leaf) (by omega)
    generalize leaf * (w - 1) = p at *
    by_cases hh : i / (w - 1) = leaf
    · rw [if_pos hh, ih k (x + 1) (i + 1) (by omega) (by omega) (by omega) (by omega) (by omega)]
      have := hd.1 hh
      congr 1; omega
    · rw [if_neg hh, ih k x (i + 1) (by omega) (by omega) (by omega) (by omega) (by omega)]
      have : ¬ (p ≤ i ∧ i < p + (w - 1)) := fun e => hh (hd.2 e)
      congr 1; omega
theorem narrow {w f : Int} (h : wrongv w f = 0) (hw : ¬ (40 < w ∧ w ≤ 256)) : w ≤ 40 ∧ mostv w ≤ 1248 := by
  obtain ⟨a, b, _, _⟩ := wrongv_ok h
  have h2 : (w - 8) * (w - 1) ≤ 32 * 39 := Int.mul_le_mul (by omega) (by omega) (by omega) (by omega)
  unfold mostv
  omega
theorem Full_eq {w f leaf : Int} (hw : ¬ (40 < w ∧ w ≤ 256)) : quitrentref07_Full.f 2000 w f leaf = some (fullv w f leaf) := by
  unfold quitrentref07_Full.f fullv
  rw [Wrong_eq]
  simp only [Option.bind_some]
  by_cases h : wrongv w f = 0
  · rw [if_pos h, if_pos h]
    obtain ⟨a, b, c, d⟩ := wrongv_ok h
    have hn := narrow h hw
    by_cases hl : leavesv w f = 0
    · rw [Full_loop0 h hl (by omega) f.toNat 2000 0 0 (by omega) (by omega) (by omega) (by omega) (by omega)]
      simp only [Option.bind_some, hl, if_true]
      by_cases h2 : leaf = -1
      · rw [if_pos h2, if_neg (by omega), if_pos h2]; congr 1; omega
      · rw [if_neg h2]
        by_cases h1 : leaf < -1
        · rw [if_pos h1]
        · rw [if_neg h1, if_neg h2, if_pos (by omega)]
    · rw [Full_loop1 h hl (by omega) f.toNat 2000 0 0 (by omega) (by omega) (by omega) (by omega) (by omega)]
      simp only [Option.bind_some, if_neg hl]
      congr 1
      by_cases h1 : leaf < -1
      · rw [if_pos h1]
        have : leaf * (w - 1) ≤ (-1) * (w - 1) := Int.mul_le_mul_of_nonneg_right (by omega) (by omega)
        omega
      · rw [if_neg h1]
        by_cases h2 : leaf = -1
        · rw [if_pos h2, h2]; omega
        · rw [if_neg h2]
          by_cases h3 : leavesv w f ≤ leaf
          · rw [if_pos h3]
            rcases leaves_spec a d with ⟨_, e⟩ | ⟨_, _, _, _, e⟩
            · omega
            · have : leavesv w f * (w - 1) ≤ leaf * (w - 1) := Int.mul_le_mul_of_nonneg_right h3 (by omega)
              omega
          · rw [if_neg h3]
            have := full_in a d (show 0 ≤ leaf by omega) (by omega)
            omega
  · rw [if_neg h, if_neg h]
/-! ### the largest -/
def topv (w b : Int) : Int := if b = 1 then w - 8 else (b - 1) * (w - 1)
def largestv (w b : Int) : Int := if 16 ≤ w ∧ w ≤ 256 then (if b < 1 ∨ b > w - 7 then 0 else topv w b) else 0
theorem top_bounds {w b : Int} (hw : 16 ≤ w) (h1 : 1 ≤ b) (h2 : b ≤ w - 7) : w - 8 ≤ topv w b ∧ topv w b ≤ mostv w := by
  unfold topv mostv
  split
  · have : 1 * (w - 1) ≤ (w - 8) * (w - 1) := Int.mul_le_mul_of_nonneg_right (by omega) (by omega)
    omega
  · have : (b - 1) * (w - 1) ≤ (w - 8) * (w - 1) := Int.mul_le_mul_of_nonneg_right (by omega) (by omega)
    have : 1 * (w - 1) ≤ (b - 1) * (w - 1) := Int.mul_le_mul_of_nonneg_right (by omega) (by omega)
    omega
theorem largest_eq (w b : Int) : shape_Largest.f w b = some (largestv w b) := by
  unfold shape_Largest.f largestv
  rw [isWidth_eq]
  simp only [Option.bind_some, decide_eq_true_eq]
  by_cases h : 16 ≤ w ∧ w ≤ 256
  · rw [if_pos h, if_pos h]
    by_cases h1 : b < 1
    · rw [if_pos h1, if_pos (by omega)]
    · rw [if_neg h1]
      unfold shape_inHead.f shape_inLeaf.f
      simp only [Option.bind_some]
      rw [wrap64_id (n := w - 8) (by omega) (by omega), wrap64_id (n := w - 8 + 1) (by omega) (by omega)]
      by_cases h2 : b > w - 8 + 1
      · rw [if_pos h2, if_pos (by omega)]
      · rw [if_neg h2, if_neg (show ¬ (b < 1 ∨ b > w - 7) by omega)]
        have ht := top_bounds h.1 (show 1 ≤ b by omega) (by omega)
        have hb := mostv_bounds h.1 h.2
        unfold topv at ht ⊢
        by_cases h3 : b = 1
        · rw [if_pos h3, if_pos h3]
        · rw [if_neg h3] at ht
          rw [if_neg h3, if_neg h3, wrap64_id (n := b - 1) (by omega) (by omega), wrap64_id (n := w - 1) (by omega) (by omega), wrap64_id (by omega) (by omega)]
  · rw [if_neg h, if_neg h]
theorem top_leaves {w b : Int} (hw : 16 ≤ w) (h1 : 1 ≤ b) (h2 : b ≤ w - 7) : 1 + leavesv w (topv w b) = b := by
  have ht := top_bounds hw h1 h2
  rcases leaves_spec (f := topv w b) hw ht.2 with ⟨a, e⟩ | ⟨a, _⟩
  · rw [e]
    unfold topv at a
    split at a
    · omega
    · have : 1 * (w - 1) ≤ (b - 1) * (w - 1) := Int.mul_le_mul_of_nonneg_right (by omega) (by omega)
      omega
  · have hb : b ≠ 1 := by intro e; unfold topv at a; rw [if_pos e] at a; omega
    have e : topv w b = (b - 1) * (w - 1) := by unfold topv; rw [if_neg hb]
    rw [leaves_unique (L := b - 1) hw a ht.2 (by omega) (by omega)]
    omega
theorem le_top {w f b : Int} (hw : 16 ≤ w) (hf : f ≤ mostv w) (h : 1 + leavesv w f = b) : f ≤ topv w b := by
  unfold topv
  rcases leaves_spec hw hf with ⟨a, e⟩ | ⟨a, a1, _, _, e⟩
  · rw [if_pos (by omega)]; exact a
  · rw [if_neg (by omega), ← h, show 1 + leavesv w f - 1 = leavesv w f by omega]; exact e
theorem Largest_loop {w b : Int} (hw : 16 ≤ w) (hw' : w ≤ 40) (h1 : 1 ≤ b) (h2 : b ≤ w - 7) (hm : mostv w ≤ 1248) : ∀ (d k : Nat) (x f : Int), 0 ≤ f → f + d = mostv w + 1 → d + 301 < k →
    quitrentref07_Largest.lo0 k w b x f = some (if f ≤ topv w b then topv w b else x) := by
  have ht := top_bounds hw h1 h2
  intro d
  induction d with
  | zero =>
    intro k x f h0 hf hk
    obtain ⟨k, rfl⟩ : ∃ q, k = q + 1 := ⟨k - 1, by omega⟩
    rw [quitrentref07_Largest.lo0, Fields_eq hw (by omega)]
    simp only [Option.bind_some]
    rw [if_neg (by omega), if_neg (by omega)]
  | succ d ih =>
    intro k x f h0 hf hk
    obtain ⟨k, rfl⟩ : ∃ q, k = q + 1 := ⟨k - 1, by omega⟩
    rw [quitrentref07_Largest.lo0, Fields_eq hw (by omega)]
    simp only [Option.bind_some]
    have hl : 0 ≤ leavesv w f ∧ leavesv w f ≤ w := by
      rcases leaves_spec (f := f) hw (by omega) with ⟨_, e⟩ | ⟨_, a, b, _⟩ <;> omega
    rw [if_pos (by omega), Leaves_eq k (by omega) hw (by omega) (by omega)]
    simp only [Option.bind_some]
    rw [wrap64_id (n := 1 + leavesv w f) (by omega) (by omega), wrap64_id (n := f + 1) (by omega) (by omega)]
    by_cases hh : 1 + leavesv w f = b
    · have := le_top hw (by omega) hh
      rw [if_pos hh, ih k f (f + 1) (by omega) (by omega) (by omega), if_pos this]
      split
      · rfl
      · congr 1; omega
    · rw [if_neg hh, ih k x (f + 1) (by omega) (by omega) (by omega)]
      have : f ≠ topv w b := by intro e; rw [e] at hh; exact hh (top_leaves hw h1 h2)
      by_cases h3 : f ≤ topv w b
      · rw [if_pos h3, if_pos (by omega)]
      · rw [if_neg h3, if_neg (by omega)]
theorem Largest_eq {w b : Int} (hw : ¬ (40 < w ∧ w ≤ 256)) : quitrentref07_Largest.f 2000 w b = some (largestv w b) := by
  unfold quitrentref07_Largest.f largestv
  rw [Width_eq]
  simp only [Option.bind_some, decide_eq_true_eq]
  by_cases h : 16 ≤ w ∧ w ≤ 256
  · rw [if_pos h, if_pos h]
    have hm : (w - 8) * (w - 1) ≤ 32 * 39 := Int.mul_le_mul (by omega) (by omega) (by omega) (by omega)
    by_cases h1 : b < 1
    · rw [if_pos h1, if_pos (by omega)]
    · rw [if_neg h1, wrap64_id (n := w - 7) (by omega) (by omega)]
      by_cases h2 : b > w - 7
      · rw [if_pos h2, if_pos (by omega)]
      · have hb := mostv_bounds h.1 h.2
        have ht := top_bounds h.1 (show 1 ≤ b by omega) (by omega)
        rw [if_neg h2, if_neg (by omega), Largest_loop h.1 (by omega) (by omega) (by omega) (by unfold mostv; omega) (mostv w + 1).toNat 2000 0 0 (by omega) (by omega) (by unfold mostv; omega)]
        simp only [Option.bind_some]
        rw [if_pos (by omega)]
  · rw [if_neg h, if_neg h]
theorem ShapeFull (a0 a1 a2 a3 : Int) (_ : (Lit.int .i64 a0).wf = true) (_ : (Lit.int .i64 a1).wf = true) (_ : (Lit.int .i64 a2).wf = true) (_ : (Lit.int .i64 a3).wf = true) : ∃ k, quitrentlaw07_ShapeFull.f k a0 a1 a2 a3 = some true := by
  refine ⟨2000, ?_⟩
  unfold quitrentlaw07_ShapeFull.f
  rw [wide_eq, begun_eq]
  simp only [Option.bind_some, decide_eq_true_eq]
  by_cases h : 40 < a0 ∧ a0 ≤ 256
  · rw [if_pos h]
  · rw [if_neg h, full_eq 1998, Full_eq h, largest_eq, Largest_eq h]
    simp
def backv (w f leaf at_ : Int) : Int × Int :=
  if wrongv w f = 0 then
    (if 0 ≤ leaf then (if fullv w f leaf = 0 ∨ at_ < 1 ∨ fullv w f leaf ≤ at_ - 1 then (0, 7) else (leaf * (w - 1) + at_ - 1, 0))
     else (if fullv w f leaf = 0 ∨ at_ < 8 ∨ fullv w f leaf ≤ at_ - 8 then (0, 7) else (at_ - 8, 0)))
  else (0, wrongv w f)
theorem full_bounds {w f leaf : Int} (h : wrongv w f = 0) : 0 ≤ fullv w f leaf ∧ fullv w f leaf ≤ f ∧ (fullv w f leaf ≠ 0 → 0 ≤ leaf → 0 ≤ leaf * (w - 1) ∧ leaf * (w - 1) + fullv w f leaf ≤ f ∧ leavesv w f ≠ 0) := by
  obtain ⟨hw, hw', hf, hf'⟩ := wrongv_ok h
  unfold fullv
  rw [if_pos h]
  by_cases h1 : leaf < -1
  · rw [if_pos h1]; omega
  · rw [if_neg h1]
    by_cases h2 : leaf = -1
    · rw [if_pos h2]
      by_cases h3 : leavesv w f = 0
      · rw [if_pos h3]; omega
      · rw [if_neg h3]; omega
    · rw [if_neg h2]
      by_cases h3 : leavesv w f ≤ leaf
      · rw [if_pos h3]; omega
      · rw [if_neg h3]
        have hx := full_in hw hf' (show 0 ≤ leaf by omega) (by omega)
        omega
theorem back_eq (k : Nat) {w f leaf at_ : Int} (ha : (Lit.int .i64 at_).wf = true) : shape_Back.f (k + 2) w f leaf at_ = some (backv w f leaf at_) := by
  rw [Lit.wf_int_iff] at ha
  have ha1 : -9223372036854775808 ≤ at_ := ha.1
  have ha2 : at_ ≤ 9223372036854775807 := ha.2
  unfold shape_Back.f backv
  rw [wrong_eq]
  simp only [Option.bind_some]
  by_cases h : wrongv w f = 0
  · rw [if_pos h, if_pos h, full_eq]
    obtain ⟨hw, hw', hf, hf'⟩ := wrongv_ok h
    have hb := mostv_bounds hw hw'
    have hfull := full_bounds (leaf := leaf) h
    unfold shape_inLeaf.f
    simp only [Option.bind_some]
    by_cases h1 : leaf ≥ 0
    · rw [if_pos h1, if_pos h1]
      by_cases h2 : fullv w f leaf = 0
      · rw [if_pos h2, if_pos (.inl h2)]
      · rw [if_neg h2]
        by_cases h3 : at_ < 1
        · rw [if_pos h3, if_pos (.inr (.inl h3))]
        · rw [if_neg h3, wrap64_id (n := at_ - 1) (by omega) (by omega)]
          by_cases h4 : at_ - 1 ≥ fullv w f leaf
          · rw [if_pos h4, if_pos (.inr (.inr h4))]
          · have := hfull.2.2 h2 h1
            rw [if_neg h4, if_neg (by omega), wrap64_id (n := w - 1) (by omega) (by omega), wrap64_id (n := leaf * (w - 1)) (by omega) (by omega), wrap64_id (n := leaf * (w - 1) + at_) (by omega) (by omega), wrap64_id (by omega) (by omega)]
    · rw [if_neg h1, if_neg h1]
      by_cases h2 : fullv w f leaf = 0
      · rw [if_pos h2, if_pos (.inl h2)]
      · rw [if_neg h2]
        by_cases h3 : at_ < 8
        · rw [if_pos h3, if_pos (.inr (.inl h3))]
        · rw [if_neg h3, wrap64_id (n := at_ - 8) (by omega) (by omega)]
          by_cases h4 : at_ - 8 ≥ fullv w f leaf
          · rw [if_pos h4, if_pos (.inr (.inr h4))]
          · rw [if_neg h4, if_neg (by omega), wrap64_id (n := at_) (by omega) (by omega), wrap64_id (by omega) (by omega)]
  · rw [if_neg h, if_neg h]
/-- At which number the search meets its place: behind all fields, if nowhere. -/
theorem Back_loop {w f leaf at_ : Int} (hf : f ≤ 1400) (hit : Int → Prop)
    (hh : ∀ i, 0 ≤ i → i < f → (hit i ↔ (placev w f i).1 = leaf ∧ (placev w f i).2.1 = at_)) (t : Int) (ht0 : 0 ≤ t) (ht : t ≤ f) (hmiss : ∀ i, 0 ≤ i → i < t → ¬ hit i) (hat : t < f → hit t) :
    ∀ (d k : Nat) (i : Int), 0 ≤ i → i + d = t → d + 301 < k → quitrentref07_Back.lo0 k w f leaf at_ i = some (if t < f then .ret (t, 0) else .out ()) := by
  intro d
  induction d with
  | zero =>
    intro k i h0 hi hk
    obtain ⟨k, rfl⟩ : ∃ q, k = q + 1 := ⟨k - 1, by omega⟩
    obtain rfl : i = t := by omega
    rw [quitrentref07_Back.lo0]
    by_cases h : i < f
    · have := (hh i h0 h).1 (hat h)
      rw [if_pos h, if_pos h, Place_eq k (by omega)]
      simp only [Option.bind_some]
      rw [if_pos this.1, if_pos this.2]
    · rw [if_neg h, if_neg h]
  | succ d ih =>
    intro k i h0 hi hk
    obtain ⟨k, rfl⟩ : ∃ q, k = q + 1 := ⟨k - 1, by omega⟩
    have hm := hmiss i h0 (by omega)
    rw [hh i h0 (by omega)] at hm
    rw [quitrentref07_Back.lo0, if_pos (by omega), Place_eq k (by omega)]
    simp only [Option.bind_some]
    rw [wrap64_id (n := i + 1) (by omega) (by omega)]
    have hn := ih k (i + 1) (by omega) (by omega) (by omega)
    by_cases h1 : (placev w f i).1 = leaf
    · rw [if_pos h1]
      rw [if_neg (fun e => hm ⟨h1, e⟩), hn]
    · rw [if_neg h1, hn]
theorem hit_leaf {w i leaf at_ : Int} (hw : 16 ≤ w) : (i / (w - 1) = leaf ∧ 1 + i % (w - 1) = at_) ↔ (1 ≤ at_ ∧ at_ ≤ w - 1 ∧ i = leaf * (w - 1) + at_ - 1) := by
  have e := Int.mul_ediv_add_emod i (w - 1)
  have h0 := Int.emod_nonneg i (show w - 1 ≠ 0 by omega)
  have h1 := Int.emod_lt_of_pos i (show 0 < w - 1 by omega)
  have hd := div_is (m := w - 1) (i := i) (q := leaf) (by omega)
  rw [Int.mul_comm] at e
  constructor
  · rintro ⟨rfl, rfl⟩; omega
  · rintro ⟨a, b, c⟩
    have : i / (w - 1) = leaf := hd.2 (by omega)
    rw [this] at e
    exact ⟨this, by omega⟩
theorem Back_eq {w f leaf at_ : Int} (hw : ¬ (40 < w ∧ w ≤ 256)) : quitrentref07_Back.f 2000 w f leaf at_ = some (backv w f leaf at_) := by
  unfold quitrentref07_Back.f backv
  rw [Wrong_eq]
  simp only [Option.bind_some]
  by_cases h : wrongv w f = 0
  · rw [if_pos h, if_pos h]
    obtain ⟨a, b, c, d⟩ := wrongv_ok h
    have hn := narrow h hw
    have hfull := full_bounds (leaf := leaf) h
    have hp : ∀ i, 0 ≤ i → i < f → placev w f i = if leavesv w f = 0 then (-1, 8 + i, 0) else (i / (w - 1), 1 + i % (w - 1), 0) := fun i h0 h1 => by
      unfold placev; rw [if_pos h, if_neg (show ¬ (i < 0 ∨ f ≤ i) by omega)]
    -- where it is
    have key : ∀ (hit : Int → Prop) (t : Int), (∀ i, 0 ≤ i → i < f → (hit i ↔ (placev w f i).1 = leaf ∧ (placev w f i).2.1 = at_)) → 0 ≤ t → t ≤ f → (∀ i, 0 ≤ i → i < t → ¬ hit i) → (t < f → hit t) →
        ((quitrentref07_Back.lo0 2000 w f leaf at_ 0).bind fun o => Lp.elim o (fun r => some r) (fun _ => some (0, 7))) = some (if t < f then (t, 0) else (0, 7)) := fun hit t hh h0 ht hm hat => by
      rw [Back_loop (by omega) hit hh t h0 ht hm hat t.toNat 2000 0 (by omega) (by omega) (by omega)]
      by_cases ht : t < f
      · rw [if_pos ht, if_pos ht]; rfl
      · rw [if_neg ht, if_neg ht]; rfl
    by_cases hl : leavesv w f = 0
    · by_cases hx : leaf = -1 ∧ 8 ≤ at_ ∧ at_ - 8 < f
      · have hfv : fullv w f leaf = f := by unfold fullv; rw [if_pos h, if_neg (by omega), if_pos hx.1, if_pos hl]
        rw [key (fun i => i = at_ - 8) (at_ - 8) (fun i h0 h1 => by rw [hp i h0 h1, if_pos hl]; simp only []; omega) (by omega) (by omega) (fun i _ h1 e => by omega) (fun _ => rfl), if_pos (by omega), if_neg (by omega), hfv, if_neg (by omega)]
      · rw [key (fun i => leaf = -1 ∧ i = at_ - 8) f (fun i h0 h1 => by rw [hp i h0 h1, if_pos hl]; simp only []; omega) c (by omega) (fun i h0 h1 e => by omega) (fun h => by omega), if_neg (by omega)]
        have hfv : fullv w f leaf = if leaf = -1 then f else 0 := by
          unfold fullv; rw [if_pos h]
          by_cases h1 : leaf < -1
          · rw [if_pos h1, if_neg (by omega)]
          · rw [if_neg h1]
            by_cases h2 : leaf = -1
            · rw [if_pos h2, if_pos hl, if_pos h2]
            · rw [if_neg h2, if_pos (by omega), if_neg h2]
        by_cases h2 : leaf = -1
        · rw [if_pos h2] at hfv
          rw [if_neg (by omega), hfv, if_pos (by omega)]
        · rw [if_neg h2] at hfv
          rw [hfv]
          by_cases h3 : 0 ≤ leaf
          · rw [if_pos h3, if_pos (by omega)]
          · rw [if_neg h3, if_pos (by omega)]
    · have hh : ∀ i, 0 ≤ i → i < f → ((1 ≤ at_ ∧ at_ ≤ w - 1 ∧ i = leaf * (w - 1) + at_ - 1) ↔ (placev w f i).1 = leaf ∧ (placev w f i).2.1 = at_) := fun i h0 h1 => by
        rw [hp i h0 h1, if_neg hl]; exact hit_leaf a |>.symm
      by_cases h1 : 0 ≤ leaf
      · rw [if_pos h1]
        have hfv : fullv w f leaf = if leavesv w f ≤ leaf then 0 else min (w - 1) (f - leaf * (w - 1)) := by unfold fullv; rw [if_pos h, if_neg (by omega), if_neg (by omega)]
        by_cases h2 : leavesv w f ≤ leaf
        · rw [if_pos h2] at hfv
          rw [hfv, if_pos (by omega)]
          have hge : f ≤ leaf * (w - 1) := by
            rcases leaves_spec a d with ⟨_, e⟩ | ⟨_, _, _, _, e⟩
            · omega
            · have : leavesv w f * (w - 1) ≤ leaf * (w - 1) := Int.mul_le_mul_of_nonneg_right h2 (by omega)
              omega
          rw [key _ f hh c (by omega) (fun i h0 h1 e => by omega) (fun h => by omega), if_neg (by omega)]
        · rw [if_neg h2] at hfv
          have hin := full_in a d h1 (by omega)
          by_cases h3 : at_ < 1 ∨ fullv w f leaf ≤ at_ - 1
          · rw [if_pos (by omega), key _ f hh c (by omega) (fun i h0 h1 e => by omega) (fun h => by omega), if_neg (by omega)]
          · rw [if_neg (by omega), key _ (leaf * (w - 1) + at_ - 1) hh (by omega) (by omega) (fun i h0 h1 e => by omega) (fun _ => by omega), if_pos (by omega)]
      · rw [if_neg h1]
        have hfv : fullv w f leaf = 0 := by
          unfold fullv; rw [if_pos h]
          by_cases h2 : leaf < -1
          · rw [if_pos h2]
          · rw [if_neg h2, if_pos (by omega), if_neg hl]
        have : leaf * (w - 1) ≤ (-1) * (w - 1) := Int.mul_le_mul_of_nonneg_right (by omega) (by omega)
        rw [if_pos (.inl hfv), key _ f hh c (by omega) (fun i h0 h1 e => by omega) (fun h => by omega), if_neg (by omega)]
  · rw [if_neg h, if_neg h]
theorem ShapePlaces (a0 a1 a2 a3 a4 : Int) (_ : (Lit.int .i64 a0).wf = true) (_ : (Lit.int .i64 a1).wf = true) (_ : (Lit.int .i64 a2).wf = true) (_ : (Lit.int .i64 a3).wf = true) (h4 : (Lit.int .i64 a4).wf = true) : ∃ k, quitrentlaw07_ShapePlaces.f k a0 a1 a2 a3 a4 = some true := by
  refine ⟨2000, ?_⟩
  unfold quitrentlaw07_ShapePlaces.f
  rw [wide_eq, begun_eq]
  simp only [Option.bind_some, decide_eq_true_eq]
  by_cases h : 40 < a0 ∧ a0 ≤ 256
  · rw [if_pos h]
  · rw [if_neg h, place_eq 1998, Place_eq 2000 (by omega), back_eq 1998 h4, Back_eq h]
    simp
theorem wf_of {n : Int} (h : 0 ≤ n) (h' : n ≤ 1000000) : (Lit.int .i64 n).wf = true := by
  rw [Lit.wf_int_iff]
  exact ⟨Int.le_trans (by decide) h, Int.le_trans h' (by decide)⟩
theorem ShapeApart (a0 a1 a2 a3 : Int) (_ : (Lit.int .i64 a0).wf = true) (_ : (Lit.int .i64 a1).wf = true) (_ : (Lit.int .i64 a2).wf = true) (_ : (Lit.int .i64 a3).wf = true) : ∃ k, quitrentlaw07_ShapeApart.f k a0 a1 a2 a3 = some true := by
  refine ⟨2000, ?_⟩
  unfold quitrentlaw07_ShapeApart.f
  simp only [place_eq 1998, begun_eq, Option.bind_some]
  by_cases h : wrongv a0 a1 = 0
  · obtain ⟨a, b, c, d⟩ := wrongv_ok h
    have hb := mostv_bounds a b
    by_cases hi : a2 < 0 ∨ a1 ≤ a2
    · have e : placev a0 a1 a2 = (0, 0, 7) := by unfold placev; rw [if_pos h, if_pos hi]
      simp [e]
    · by_cases hl : leavesv a0 a1 = 0
      · have e : placev a0 a1 a2 = (-1, 8 + a2, 0) := by unfold placev; rw [if_pos h, if_neg hi, if_pos hl]
        have hfv : fullv a0 a1 (-1) = a1 := by unfold fullv; rw [if_pos h, if_neg (by omega), if_pos rfl, if_pos hl]
        have hbk : backv a0 a1 (-1) (8 + a2) = (a2, 0) := by
          unfold backv; rw [if_pos h, if_neg (by omega), hfv, if_neg (by omega)]; congr 1; omega
        have hh : a1 ≤ a0 - 8 := by rcases leaves_spec a d with ⟨x, _⟩ | ⟨_, x, _⟩ <;> omega
        simp only [e, back_eq 1998 (wf_of (show 0 ≤ 8 + a2 by omega) (by omega)), hbk, Option.bind_some, if_true]
        rw [if_neg (by omega), if_neg (by omega), if_pos (by omega), if_neg (by omega)]
        by_cases hj : a3 < 0 ∨ a1 ≤ a3
        · have e' : placev a0 a1 a3 = (0, 0, 7) := by unfold placev; rw [if_pos h, if_pos hj]
          simp [e']
        · have e' : placev a0 a1 a3 = (-1, 8 + a3, 0) := by unfold placev; rw [if_pos h, if_neg hj, if_pos hl]
          simp only [e', if_true]
          by_cases hij : a2 = a3
          · rw [if_pos hij]
          · rw [if_neg hij]; congr 1; rw [bne_iff_ne]; omega
      · have e : placev a0 a1 a2 = (a2 / (a0 - 1), 1 + a2 % (a0 - 1), 0) := by unfold placev; rw [if_pos h, if_neg hi, if_neg hl]
        have hin := in_leaf (w := a0) (i := a2) a (by omega)
        have e1 := Int.mul_ediv_add_emod a2 (a0 - 1)
        rw [Int.mul_comm] at e1
        have hlt : a2 / (a0 - 1) < leavesv a0 a1 := by
          rcases leaves_spec a d with ⟨_, x⟩ | ⟨_, _, _, _, x⟩
          · omega
          · have : (a2 / (a0 - 1)) * (a0 - 1) < leavesv a0 a1 * (a0 - 1) := by omega
            exact Int.lt_of_mul_lt_mul_right this (by omega)
        have hfv : fullv a0 a1 (a2 / (a0 - 1)) = min (a0 - 1) (a1 - a2 / (a0 - 1) * (a0 - 1)) := by unfold fullv; rw [if_pos h, if_neg (by omega), if_neg (by omega), if_neg (by omega)]
        have hbk : backv a0 a1 (a2 / (a0 - 1)) (1 + a2 % (a0 - 1)) = (a2, 0) := by
          unfold backv; rw [if_pos h, if_pos hin.1, hfv, if_neg (by omega)]; congr 1; omega
        simp only [e, back_eq 1998 (wf_of (show 0 ≤ 1 + a2 % (a0 - 1) by omega) (by omega)), hbk, Option.bind_some, if_true]
        rw [if_neg (by omega), if_neg (by omega), if_neg (by omega)]
        by_cases hj : a3 < 0 ∨ a1 ≤ a3
        · have e' : placev a0 a1 a3 = (0, 0, 7) := by unfold placev; rw [if_pos h, if_pos hj]
          simp [e']
        · have e' : placev a0 a1 a3 = (a3 / (a0 - 1), 1 + a3 % (a0 - 1), 0) := by unfold placev; rw [if_pos h, if_neg hj, if_neg hl]
          have e2 := Int.mul_ediv_add_emod a3 (a0 - 1)
          rw [Int.mul_comm] at e2
          simp only [e', if_true]
          by_cases hij : a2 = a3
          · rw [if_pos hij]
          · rw [if_neg hij]
            by_cases hq : a2 / (a0 - 1) = a3 / (a0 - 1)
            · rw [if_pos hq]; rw [hq] at e1; congr 1; rw [bne_iff_ne]; omega
            · rw [if_neg hq]
  · have e : placev a0 a1 a2 = (0, 0, wrongv a0 a1) := by unfold placev; rw [if_neg h]
    simp [e, h]
/-! ### all fields -/
theorem leaves_mono {w f g : Int} (hw : 16 ≤ w) (hfg : f ≤ g) (hg : g ≤ mostv w) : leavesv w f ≤ leavesv w g := by
  rcases leaves_spec (f := f) hw (by omega) with ⟨_, x⟩ | ⟨a, b, c, d, e⟩
  · rcases leaves_spec (f := g) hw hg with ⟨_, y⟩ | ⟨_, y, _⟩ <;> omega
  · rcases leaves_spec (f := g) hw hg with ⟨_, y⟩ | ⟨_, _, _, _, y⟩
    · omega
    · generalize leavesv w f = L at *
      generalize leavesv w g = M at *
      have e1 : (L - 1) * (w - 1) < M * (w - 1) := by rw [Int.sub_mul]; omega
      have := Int.lt_of_mul_lt_mul_right e1 (by omega)
      omega
theorem All_loop {w f : Int} (h : wrongv w f = 0) (hl : 1 ≤ leavesv w f) : ∀ (d k : Nat) (l : Int), 0 ≤ l → l + d = leavesv w f → d + 3 < k →
    quitrentlaw07_ShapeAll.lo0 k w f (1 + leavesv w f, 0) (min f (l * (w - 1))) l = some (.out f) := by
  obtain ⟨a, b, c, d0⟩ := wrongv_ok h
  have hb := mostv_bounds a b
  have hL : leavesv w f ≤ w - 8 ∧ leavesv w f * (w - 1) - (w - 1) < f ∧ f ≤ leavesv w f * (w - 1) := by
    rcases leaves_spec a d0 with ⟨_, x⟩ | ⟨_, _, x, y, z⟩
    · omega
    · exact ⟨x, y, z⟩
  intro d
  induction d with
  | zero =>
    intro k l h0 hi hk
    obtain ⟨k, rfl⟩ : ∃ q, k = q + 1 := ⟨k - 1, by omega⟩
    obtain rfl : l = leavesv w f := by omega
    rw [quitrentlaw07_ShapeAll.lo0]
    simp only []
    rw [wrap64_id (n := 1 + leavesv w f - 1) (by omega) (by omega), if_neg (by omega)]
    congr 2
    omega
  | succ d ih =>
    intro k l h0 hi hk
    obtain ⟨k, rfl⟩ : ∃ q, k = q + 1 + 2 := ⟨k - 3, by omega⟩
    have hin := full_in a d0 h0 (show l < leavesv w f by omega)
    have hfv : fullv w f l = min (w - 1) (f - l * (w - 1)) := by unfold fullv; rw [if_pos h, if_neg (by omega), if_neg (by omega), if_neg (by omega)]
    have e1 : (l + 1) * (w - 1) = l * (w - 1) + (w - 1) := by rw [Int.add_mul]; omega
    have hn := ih (k + 2) (l + 1) (by omega) (by omega) (by omega)
    rw [e1] at hn
    rw [show k + 1 + 2 = (k + 2) + 1 from rfl, quitrentlaw07_ShapeAll.lo0]
    simp only []
    rw [wrap64_id (n := 1 + leavesv w f - 1) (by omega) (by omega), if_pos (by omega), full_eq k, hfv]
    simp only [Option.bind_some]
    rw [if_neg (by omega), wrap64_id (n := 1 + leavesv w f - 2) (by omega) (by omega), wrap64_id (n := w - 1) (by omega) (by omega), wrap64_id (n := min f (l * (w - 1)) + _) (by omega) (by omega), wrap64_id (n := l + 1) (by omega) (by omega)]
    have e2 : min f (l * (w - 1)) + min (w - 1) (f - l * (w - 1)) = min f (l * (w - 1) + (w - 1)) := by omega
    rw [e2, hn]
    by_cases h1 : l < 1 + leavesv w f - 2
    · have : (l + 1) * (w - 1) ≤ (leavesv w f - 1) * (w - 1) := Int.mul_le_mul_of_nonneg_right (by omega) (by omega)
      rw [Int.sub_mul] at this
      rw [if_pos h1, if_pos (by omega)]
    · rw [if_neg h1]
theorem ShapeAll (a0 a1 : Int) (_ : (Lit.int .i64 a0).wf = true) (_ : (Lit.int .i64 a1).wf = true) : ∃ k, quitrentlaw07_ShapeAll.f k a0 a1 = some true := by
  refine ⟨2000, ?_⟩
  unfold quitrentlaw07_ShapeAll.f
  rw [wide_eq, blocks_eq 1997, begun_eq]
  simp only [Option.bind_some, decide_eq_true_eq]
  by_cases h : 40 < a0 ∧ a0 ≤ 256
  · rw [if_pos h]
  · rw [if_neg h]
    have e2 : wrong2v a0 a1 0 = wrongv a0 a1 := by
      unfold wrong2v wrongv
      by_cases hw : 16 ≤ a0 ∧ a0 ≤ 256
      · rw [if_pos hw, if_pos hw]
        by_cases h1 : 0 ≤ a1 ∧ a1 ≤ mostv a0
        · rw [if_pos h1, if_pos (by omega)]
        · rw [if_neg h1, if_neg (by omega)]
      · rw [if_neg hw, if_neg hw]
    rw [e2, show a1 + 0 = a1 by omega]
    by_cases hw : wrongv a0 a1 = 0
    · obtain ⟨a, b, c, d⟩ := wrongv_ok hw
      have hb := mostv_bounds a b
      have hl := leaves_spec a d
      have hL : 0 ≤ leavesv a0 a1 ∧ leavesv a0 a1 ≤ a0 - 8 := by rcases hl with ⟨_, x⟩ | ⟨_, x, y, _⟩ <;> omega
      simp only [if_pos hw, full_eq 1998, Option.bind_some]
      rw [if_pos trivial]
      -- the sum
      have hsum : quitrentlaw07_ShapeAll.lo0 2000 a0 a1 (1 + leavesv a0 a1, 0) (fullv a0 a1 (-1)) 0 = some (.out a1) := by
        by_cases h0 : leavesv a0 a1 = 0
        · have : fullv a0 a1 (-1) = a1 := by unfold fullv; rw [if_pos hw, if_neg (by omega), if_pos rfl, if_pos h0]
          rw [this, show (2000 : Nat) = 1999 + 1 from rfl, quitrentlaw07_ShapeAll.lo0]
          simp only []
          rw [wrap64_id (n := 1 + leavesv a0 a1 - 1) (by omega) (by omega), if_neg (by omega)]
        · have e : fullv a0 a1 (-1) = 0 := by unfold fullv; rw [if_pos hw, if_neg (by omega), if_pos rfl, if_neg h0]
          have := All_loop hw (by omega) (leavesv a0 a1).toNat 2000 0 (by omega) (by omega) (by omega)
          rw [e]
          rwa [show min a1 (0 * (a0 - 1)) = 0 by omega] at this
      rw [hsum]
      simp only [Option.bind_some, Lp.elim]
      rw [wrap64_id (n := a1 + 1) (by omega) (by omega), blocks_eq 1997, largest_eq]
      simp only [Option.bind_some, if_true]
      have htop : largestv a0 (1 + leavesv a0 a1) = topv a0 (1 + leavesv a0 a1) := by unfold largestv; rw [if_pos ⟨a, b⟩, if_neg (by omega)]
      have hle := le_top a d rfl
      have htl := top_leaves a (show 1 ≤ 1 + leavesv a0 a1 by omega) (by omega)
      have htb := top_bounds a (show 1 ≤ 1 + leavesv a0 a1 by omega) (by omega)
      rw [htop]
      generalize htt : topv a0 (1 + leavesv a0 a1) = t at *
      by_cases hf : a1 + 1 ≤ mostv a0
      · have hw2 : wrong2v a0 (a1 + 1) 0 = 0 := by unfold wrong2v; rw [if_pos ⟨a, b⟩, if_pos (by omega)]
        rw [hw2]
        simp only [if_true]
        rw [show a1 + 1 + 0 = a1 + 1 by omega]
        have hm1 := leaves_mono (f := a1) (g := a1 + 1) a (by omega) hf
        rw [if_pos (by omega), if_pos (by omega)]
        by_cases ht : t = a1
        · have : leavesv a0 (a1 + 1) ≠ leavesv a0 a1 := fun e => by
            have := le_top (b := 1 + leavesv a0 a1) a hf (by omega)
            omega
          rw [if_pos (by omega), if_pos ht]
        · have := leaves_mono (f := a1 + 1) (g := t) a (by omega) htb.2
          rw [if_neg (by omega), if_neg ht]
      · have hw2 : wrong2v a0 (a1 + 1) 0 = 3 := by unfold wrong2v; rw [if_pos ⟨a, b⟩, if_neg (by omega)]
        rw [hw2]
        simp only [show ¬ ((3 : Int) = 0) by decide, if_false]
        rw [if_pos (by omega)]
    · simp only [if_neg hw, if_true]
end Go.Proofs.Ytgkpcboaiaiahab.V
