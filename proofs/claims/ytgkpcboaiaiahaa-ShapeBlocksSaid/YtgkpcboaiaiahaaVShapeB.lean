/- The laws of the group ShapeB on the plain functions. No condition. -/
import Derived.Test.YtgkpcboaiaiahaaMShapeB
namespace Go.Proofs.Ytgkpcboaiaiahaa.V
open Go.RowKit Go.Proofs.Ytgkpcboaiaiahaa.C Go.Proofs.Ytgkpcboaiaiahaa.M Go.Proofs.YtgkpcboaiaiahaaW.PrintWords
theorem wrap64_id {n : Int} (h0 : -9223372036854775808 ≤ n) (h1 : n ≤ 9223372036854775807) : wrap64 n = n := by unfold wrap64; omega
def cnt (n : Int) : Int := max 0 (min n 1125899906842624)
def byv (n : Int) : Int := max 1 (cnt n)
theorem cnt_id {n : Int} (h : 0 ≤ n) (h' : n ≤ 1125899906842624) : cnt n = n := by unfold cnt; omega
theorem counts_eq (n : Int) : ratio_counts.f n = some (cnt n) := by
  unfold ratio_counts.f ratio_Clamp.f cnt
  by_cases h1 : n > 1125899906842624
  · rw [if_pos h1]; simp only [Option.bind_some]; congr 1; omega
  · rw [if_neg h1]
    by_cases h2 : n < 0
    · rw [if_pos h2]; simp only [Option.bind_some]; congr 1; omega
    · rw [if_neg h2]; simp only [Option.bind_some]; congr 1; omega
theorem by_eq (n : Int) : ratio_by.f n = some (byv n) := by
  unfold ratio_by.f byv; rw [counts_eq]; simp only [Option.bind_some]
  by_cases h : cnt n < 1
  · rw [if_pos h]; congr 1; omega
  · rw [if_neg h]; congr 1; omega
theorem up_eq (a b : Int) (ha : 0 ≤ a) (ha' : a ≤ 1000000) (hb : 1 ≤ b) (hb' : b ≤ 1000000) : ratio_Up.f a b = some ((a + b - 1) / b) := by
  have h1 : cnt a = a := cnt_id ha (by omega)
  have h2 : byv b = b := by unfold byv; rw [cnt_id (by omega) (by omega)]; omega
  have h3 : 0 ≤ (a + b - 1) / b := Int.ediv_nonneg (by omega) (by omega)
  have h4 : (a + b - 1) / b ≤ a + b - 1 := Int.ediv_le_self _ (by omega)
  unfold ratio_Up.f; simp only [counts_eq, by_eq, h1, h2, Option.bind_some]
  rw [if_neg (by omega), wrap64_id (n := a + b) (by omega) (by omega), wrap64_id (n := a + b - 1) (by omega) (by omega), Int.tdiv_eq_ediv_of_nonneg (by omega), wrap64_id (by omega) (by omega)]
/-! ### the shape -/
/-- The most fields. -/
def mostv (w : Int) : Int := (w - 8) * (w - 1)
theorem mostv_bounds {w : Int} (h : 16 ≤ w) (h' : w ≤ 256) : 120 ≤ mostv w ∧ mostv w ≤ 63240 := by
  unfold mostv
  have h1 : 8 * 15 ≤ (w - 8) * (w - 1) := Int.mul_le_mul (by omega) (by omega) (by omega) (by omega)
  have h2 : (w - 8) * (w - 1) ≤ 248 * 255 := Int.mul_le_mul (by omega) (by omega) (by omega) (by omega)
  omega
theorem isWidth_eq (w : Int) : shape_isWidth.f w = some (decide (16 ≤ w ∧ w ≤ 256)) := by
  unfold shape_isWidth.f
  by_cases h : w ≥ 16
  · rw [if_pos h]; congr 1; exact decide_eq_decide.2 (by omega)
  · rw [if_neg h]; congr 1; exact (decide_eq_false (by omega)).symm
theorem most_eq {w : Int} (h : 16 ≤ w) (h' : w ≤ 256) : shape_most.f w = some (mostv w) := by
  have hb := mostv_bounds h h'
  unfold mostv at hb
  unfold shape_most.f shape_inHead.f shape_inLeaf.f mostv
  simp only [Option.bind_some]
  rw [wrap64_id (n := w - 8) (by omega) (by omega), wrap64_id (n := w - 1) (by omega) (by omega), wrap64_id (by omega) (by omega)]
def wrongv (w n : Int) : Int := if 16 ≤ w ∧ w ≤ 256 then (if 0 ≤ n ∧ n ≤ mostv w then 0 else 3) else 1
def wrong2v (w n m : Int) : Int := if 16 ≤ w ∧ w ≤ 256 then (if 0 ≤ n ∧ 0 ≤ m ∧ n + m ≤ mostv w then 0 else 3) else 1
theorem wrong2_eq (k : Nat) (w n m : Int) : shape_wrong.f (k + 3) w [n, m] = some (wrong2v w n m) := by
  unfold shape_wrong.f wrong2v
  rw [isWidth_eq]
  simp only [Option.bind_some, decide_eq_true_eq]
  by_cases h : 16 ≤ w ∧ w ≤ 256
  · rw [if_pos h, if_pos h, most_eq h.1 h.2]
    have hb := mostv_bounds h.1 h.2
    generalize mostv w = M at *
    simp only [Option.bind_some]
    rw [shape_wrong.lo0, if_pos (by simp), if_pos (by omega), show rd [n, m] 0 = n from rfl, show wrap64 (0 + 1) = 1 by unfold wrap64; omega]
    by_cases h1 : n < 0
    · rw [if_pos h1, if_neg (by omega)]; rfl
    · rw [if_neg h1]
      by_cases h2 : n > M
      · rw [if_pos h2, if_neg (by omega)]; rfl
      · rw [if_neg h2, wrap64_id (n := M - n) (by omega) (by omega), shape_wrong.lo0, if_pos (by simp), if_pos (by omega), show rd [n, m] 1 = m from rfl, show wrap64 (1 + 1) = 2 by unfold wrap64; omega]
        by_cases h3 : m < 0
        · rw [if_pos (by omega), if_neg (by omega)]; rfl
        · rw [if_neg (by omega)]
          by_cases h4 : m > M - n
          · rw [if_pos h4, if_neg (by omega)]; rfl
          · rw [if_neg h4, shape_wrong.lo0, if_neg (by simp), if_pos (by omega)]; rfl
  · rw [if_neg h, if_neg h]
theorem up_spec {x y L : Int} (hy : 1 ≤ y) (hL : L = (x + y - 1) / y) : L * y - y < x ∧ x ≤ L * y := by
  have e := Int.mul_ediv_add_emod (x + y - 1) y
  have h0 := Int.emod_nonneg (x + y - 1) (show y ≠ 0 by omega)
  have h1 := Int.emod_lt_of_pos (x + y - 1) (show 0 < y by omega)
  rw [← hL, Int.mul_comm] at e
  omega
def leavesv (w f : Int) : Int := if f ≤ w - 8 then 0 else (f + (w - 1) - 1) / (w - 1)
theorem leaves_spec {w f : Int} (h : 16 ≤ w) (h1 : f ≤ mostv w) :
    (f ≤ w - 8 ∧ leavesv w f = 0) ∨ (w - 8 < f ∧ 1 ≤ leavesv w f ∧ leavesv w f ≤ w - 8 ∧ leavesv w f * (w - 1) - (w - 1) < f ∧ f ≤ leavesv w f * (w - 1)) := by
  unfold leavesv
  by_cases hf : f ≤ w - 8
  · rw [if_pos hf]; exact .inl ⟨hf, rfl⟩
  · rw [if_neg hf]
    right
    have hs := up_spec (x := f) (y := w - 1) (by omega) rfl
    generalize (f + (w - 1) - 1) / (w - 1) = L at *
    refine ⟨by omega, ?_, ?_, hs.1, hs.2⟩
    · have : 0 * (w - 1) < L * (w - 1) := by omega
      have := Int.lt_of_mul_lt_mul_right this (by omega)
      omega
    · have : (L - 1) * (w - 1) < (w - 8) * (w - 1) := by unfold mostv at h1; rw [Int.sub_mul]; omega
      have := Int.lt_of_mul_lt_mul_right this (by omega)
      omega
theorem leaves_unique {w f L : Int} (h : 16 ≤ w) (hf : w - 8 < f) (h1 : f ≤ mostv w) (hL : L * (w - 1) - (w - 1) < f) (hL' : f ≤ L * (w - 1)) : leavesv w f = L := by
  rcases leaves_spec h h1 with ⟨a, _⟩ | ⟨_, _, _, a, b⟩
  · omega
  · generalize leavesv w f = M at *
    have e1 : (L - 1) * (w - 1) < M * (w - 1) := by rw [Int.sub_mul]; omega
    have e2 : (M - 1) * (w - 1) < L * (w - 1) := by rw [Int.sub_mul]; omega
    have := Int.lt_of_mul_lt_mul_right e1 (by omega)
    have := Int.lt_of_mul_lt_mul_right e2 (by omega)
    omega
theorem leaves_eq {w f : Int} (h : 16 ≤ w) (h' : w ≤ 256) (h0 : 0 ≤ f) (h1 : f ≤ mostv w) : shape_leaves.f w f = some (leavesv w f) := by
  have hb := mostv_bounds h h'
  unfold shape_leaves.f shape_inHead.f shape_inLeaf.f leavesv
  simp only [Option.bind_some]
  rw [wrap64_id (by omega) (by omega)]
  by_cases hf : f ≤ w - 8
  · rw [if_pos hf, if_pos hf]
  · rw [if_neg hf, if_neg hf, wrap64_id (by omega) (by omega), up_eq f (w - 1) (by omega) (by omega) (by omega) (by omega)]
    rfl
theorem blocks_eq (k : Nat) (w n m : Int) : shape_Blocks.f (k + 3) w n m = some (if wrong2v w n m = 0 then (1 + leavesv w (n + m), 0) else (0, wrong2v w n m)) := by
  unfold shape_Blocks.f
  rw [wrong2_eq]
  simp only [Option.bind_some]
  by_cases h : wrong2v w n m = 0
  · rw [if_pos h, if_pos h]
    unfold wrong2v at h
    split at h
    · rename_i hw
      split at h
      · rename_i hn
        have hb := mostv_bounds hw.1 hw.2
        have hl := leaves_spec (f := n + m) hw.1 hn.2.2
        rw [wrap64_id (by omega) (by omega), leaves_eq hw.1 hw.2 (by omega) hn.2.2]
        simp only [Option.bind_some]
        rw [wrap64_id (by omega) (by omega)]
      · omega
    · omega
  · rw [if_neg h, if_neg h]
/-! ### the document's answers -/
theorem Width_eq (w : Int) : quitrentref07_Width.f w = some (decide (16 ≤ w ∧ w ≤ 256)) := by
  unfold quitrentref07_Width.f
  by_cases h : w ≥ 16
  · rw [if_pos h]; congr 1; exact decide_eq_decide.2 (by omega)
  · rw [if_neg h]; congr 1; exact (decide_eq_false (by omega)).symm
theorem Fields_eq {w : Int} (h : 16 ≤ w) (h' : w ≤ 256) : quitrentref07_Fields.f w = some (mostv w) := by
  have hb := mostv_bounds h h'
  unfold mostv at hb
  unfold quitrentref07_Fields.f mostv
  rw [wrap64_id (n := w - 8) (by omega) (by omega), wrap64_id (n := w - 1) (by omega) (by omega), wrap64_id (by omega) (by omega)]
theorem Size_eq {w : Int} (n m : Int) (h : 16 ≤ w) (h' : w ≤ 256) : quitrentref07_Size.f w n m = some (decide (0 ≤ n ∧ 0 ≤ m ∧ n + m ≤ mostv w)) := by
  have hb := mostv_bounds h h'
  unfold quitrentref07_Size.f
  simp only [Fields_eq h h', Option.bind_some]
  generalize mostv w = M at *
  by_cases h1 : n ≥ 0
  · rw [if_pos h1]
    by_cases h2 : m ≥ 0
    · rw [if_pos h2]
      by_cases h3 : n ≤ M
      · rw [if_pos h3]
        by_cases h4 : m ≤ M
        · rw [if_pos h4, wrap64_id (by omega) (by omega)]; congr 1; exact decide_eq_decide.2 (by omega)
        · rw [if_neg h4]; congr 1; exact (decide_eq_false (by omega)).symm
      · rw [if_neg h3]; congr 1; exact (decide_eq_false (by omega)).symm
    · rw [if_neg h2]; congr 1; exact (decide_eq_false (by omega)).symm
  · rw [if_neg h1]; congr 1; exact (decide_eq_false (by omega)).symm
theorem Leaves_loop {w f L : Int} (h : 16 ≤ w) (h' : w ≤ 256) (hL1 : L ≤ 300) (hL : L * (w - 1) - (w - 1) < f) (hL' : f ≤ L * (w - 1)) :
    ∀ (d : Nat) (k : Nat) (n : Int), 0 ≤ n → n + d = L → d < k → quitrentref07_Leaves.lo0 k w f n = some L := by
  intro d
  induction d with
  | zero =>
    intro k n h0 hn hk
    obtain ⟨k, rfl⟩ : ∃ q, k = q + 1 := ⟨k - 1, by omega⟩
    obtain rfl : n = L := by omega
    have b : n * (w - 1) ≤ 300 * 255 := Int.mul_le_mul hL1 (by omega) (by omega) (by omega)
    have b0 : 0 ≤ n * (w - 1) := Int.mul_nonneg h0 (by omega)
    rw [quitrentref07_Leaves.lo0, wrap64_id (n := w - 1) (by omega) (by omega), wrap64_id (n := n * (w - 1)) (by omega) (by omega), if_neg (by omega)]
  | succ d ih =>
    intro k n h0 hn hk
    obtain ⟨k, rfl⟩ : ∃ q, k = q + 1 := ⟨k - 1, by omega⟩
    have b : n * (w - 1) ≤ 300 * 255 := Int.mul_le_mul (by omega) (by omega) (by omega) (by omega)
    have b0 : 0 ≤ n * (w - 1) := Int.mul_nonneg h0 (by omega)
    have b1 : n * (w - 1) ≤ (L - 1) * (w - 1) := Int.mul_le_mul_of_nonneg_right (by omega) (by omega)
    rw [Int.sub_mul] at b1
    rw [quitrentref07_Leaves.lo0, wrap64_id (n := w - 1) (by omega) (by omega), wrap64_id (n := n * (w - 1)) (by omega) (by omega), if_pos (by omega), wrap64_id (n := n + 1) (by omega) (by omega)]
    exact ih k (n + 1) (by omega) (by omega) (by omega)
theorem Leaves_eq {w f : Int} (k : Nat) (hk : 300 ≤ k) (h : 16 ≤ w) (h' : w ≤ 256) (h1 : f ≤ mostv w) : quitrentref07_Leaves.f k w f = some (leavesv w f) := by
  have hb := mostv_bounds h h'
  unfold quitrentref07_Leaves.f
  rw [wrap64_id (by omega) (by omega)]
  rcases leaves_spec h h1 with ⟨a, b⟩ | ⟨a, b, c, d, e⟩
  · rw [if_pos a, b]
  · rw [if_neg (by omega), Leaves_loop (L := leavesv w f) h h' (by omega) d e (leavesv w f).toNat k 0 (by omega) (by omega) (by omega)]
    rfl
theorem begun_eq : quitrentlaw07_begun.f 2000 = some true := by decide +kernel
theorem Blocks_eq (w n m : Int) : quitrentref07_Blocks.f 2000 w n m = some (if wrong2v w n m = 0 then (1 + leavesv w (n + m), 0) else (0, wrong2v w n m)) := by
  unfold quitrentref07_Blocks.f
  rw [Width_eq]
  simp only [Option.bind_some, decide_eq_true_eq, wrong2v]
  by_cases h : 16 ≤ w ∧ w ≤ 256
  · rw [if_pos h, Size_eq n m h.1 h.2]
    simp only [if_pos h, Option.bind_some, decide_eq_true_eq]
    by_cases hn : 0 ≤ n ∧ 0 ≤ m ∧ n + m ≤ mostv w
    · have hb := mostv_bounds h.1 h.2
      have hl := leaves_spec (f := n + m) h.1 hn.2.2
      simp only [if_pos hn]
      rw [wrap64_id (by omega) (by omega), Leaves_eq 2000 (by omega) h.1 h.2 hn.2.2]
      simp only [Option.bind_some]
      rw [wrap64_id (by omega) (by omega)]
      rfl
    · simp only [if_neg hn]; rfl
  · simp only [if_neg h]; rfl
theorem ShapeBlocks (a0 a1 a2 : Int) (_ : (Lit.int .i64 a0).wf = true) (_ : (Lit.int .i64 a1).wf = true) (_ : (Lit.int .i64 a2).wf = true) : ∃ k, quitrentlaw07_ShapeBlocks.f k a0 a1 a2 = some true := by
  refine ⟨2000, ?_⟩
  unfold quitrentlaw07_ShapeBlocks.f
  rw [blocks_eq 1997, Blocks_eq, begun_eq]
  simp
end Go.Proofs.Ytgkpcboaiaiahaa.V
