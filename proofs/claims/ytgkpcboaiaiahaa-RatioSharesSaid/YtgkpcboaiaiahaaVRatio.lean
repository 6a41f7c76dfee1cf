/- The laws of ratio on the plain functions. No condition. -/
import Derived.Test.YtgkpcboaiaiahaaMRatio
namespace Go.Proofs.Ytgkpcboaiaiahaa.V
open Go.RowKit Go.Proofs.Ytgkpcboaiaiahaa.C Go.Proofs.Ytgkpcboaiaiahaa.M Go.Proofs.YtgkpcboaiaiahaaW.PrintWords
theorem wrap64_id {n : Int} (h0 : -9223372036854775808 ≤ n) (h1 : n ≤ 9223372036854775807) : wrap64 n = n := by unfold wrap64; omega
/-- What a number counts as. -/
def cnt (n : Int) : Int := if n < 0 then 0 else if n > 1125899906842624 then 1125899906842624 else n
def byv (n : Int) : Int := if cnt n < 1 then 1 else cnt n
theorem cnt_bounds (n : Int) : 0 ≤ cnt n ∧ cnt n ≤ 1125899906842624 := by unfold cnt; split <;> (try split) <;> omega
theorem byv_bounds (n : Int) : 1 ≤ byv n ∧ byv n ≤ 1125899906842624 := by have := cnt_bounds n; unfold byv; split <;> omega
theorem cnt_id {n : Int} (h : 0 ≤ n) (h' : n ≤ 1125899906842624) : cnt n = n := by unfold cnt; rw [if_neg (by omega), if_neg (by omega)]
theorem clamp_eq (n lo hi : Int) : ratio_Clamp.f n lo hi = some (if n > hi then hi else if n < lo then lo else n) := by
  unfold ratio_Clamp.f; split <;> (try split) <;> simp_all
theorem counts_eq (n : Int) : ratio_counts.f n = some (cnt n) := by
  unfold ratio_counts.f; rw [clamp_eq]; simp only [Option.bind_some, cnt]
  congr 1; split <;> split <;> (try split) <;> omega
theorem Counts_eq (n : Int) : quitrentref02_Counts.f n = some (cnt n) := by
  unfold quitrentref02_Counts.f cnt; split <;> (try split) <;> rfl
theorem by_eq (n : Int) : ratio_by.f n = some (byv n) := by
  unfold ratio_by.f byv; rw [counts_eq]; simp only [Option.bind_some]; split <;> rfl
theorem By_eq (n : Int) : quitrentref02_By.f n = some (byv n) := by
  unfold quitrentref02_By.f byv; simp only [Counts_eq, Option.bind_some]
  have := cnt_bounds n
  by_cases h : cnt n = 0
  · rw [if_pos h, if_pos (by omega)]
  · rw [if_neg h, if_neg (by omega)]
theorem tdiv_pos {a b : Int} (h : 0 ≤ a) : Int.tdiv a b = a / b := Int.tdiv_eq_ediv_of_nonneg h
def downv (a b : Int) : Int := cnt a / byv b
def upv (a b : Int) : Int := (cnt a + byv b - 1) / byv b
theorem div_le {a b : Int} (h : 0 ≤ a) (hb : 1 ≤ b) : 0 ≤ a / b ∧ a / b ≤ a := ⟨Int.ediv_nonneg h (by omega), Int.ediv_le_self _ h⟩
theorem down_eq (a b : Int) : ratio_Down.f a b = some (downv a b) := by
  have ha := cnt_bounds a; have hb := byv_bounds b; have hd := div_le ha.1 hb.1
  unfold ratio_Down.f downv; simp only [counts_eq, by_eq, Option.bind_some]
  rw [if_neg (by omega), tdiv_pos ha.1, wrap64_id (by omega) (by omega)]
theorem Down_eq (a b : Int) : quitrentref02_Down.f a b = some (downv a b) := by
  have ha := cnt_bounds a; have hb := byv_bounds b; have hd := div_le ha.1 hb.1
  unfold quitrentref02_Down.f downv; simp only [Counts_eq, By_eq, Option.bind_some]
  rw [if_neg (by omega), tdiv_pos ha.1, wrap64_id (by omega) (by omega)]
theorem up_eq (a b : Int) : ratio_Up.f a b = some (upv a b) := by
  have ha := cnt_bounds a; have hb := byv_bounds b
  have hd := div_le (a := cnt a + byv b - 1) (by omega) hb.1
  unfold ratio_Up.f upv; simp only [counts_eq, by_eq, Option.bind_some]
  rw [if_neg (by omega), wrap64_id (n := cnt a + byv b) (by omega) (by omega), wrap64_id (n := cnt a + byv b - 1) (by omega) (by omega), tdiv_pos (by omega), wrap64_id (by omega) (by omega)]
theorem up_split {x y : Int} (hy : 1 ≤ y) : (x + y - 1) / y = if x % y > 0 then x / y + 1 else x / y := by
  have e := Int.mul_ediv_add_emod x y
  have h0 := Int.emod_nonneg x (show y ≠ 0 by omega)
  have h1 := Int.emod_lt_of_pos x (show 0 < y by omega)
  split
  · rw [Int.ediv_eq_iff_of_pos (by omega)]
    have : x / y * y = y * (x / y) := Int.mul_comm _ _
    constructor
    · rw [Int.add_mul]; omega
    · rw [Int.add_mul]; omega
  · rw [Int.ediv_eq_iff_of_pos (by omega)]
    have : x / y * y = y * (x / y) := Int.mul_comm _ _
    constructor <;> omega
theorem Up_eq (a b : Int) : quitrentref02_Up.f a b = some (upv a b) := by
  have ha := cnt_bounds a; have hb := byv_bounds b; have hd := div_le ha.1 hb.1
  unfold quitrentref02_Up.f upv; simp only [Counts_eq, By_eq, Down_eq, Option.bind_some]
  rw [if_neg (by omega), up_split hb.1, Int.tmod_eq_emod_of_nonneg ha.1]
  unfold downv
  split
  · rw [wrap64_id (by omega) (by omega)]
  · rfl
theorem begun_eq : quitrentlaw02_begun.f 200 = some true := by decide +kernel
theorem RatioShares (a0 a1 : Int) (_ : (Lit.int .i64 a0).wf = true) (_ : (Lit.int .i64 a1).wf = true) : ∃ k, quitrentlaw02_RatioShares.f k a0 a1 = some true := by
  refine ⟨200, ?_⟩
  unfold quitrentlaw02_RatioShares.f
  simp [begun_eq, down_eq, Down_eq, up_eq, Up_eq]
end Go.Proofs.Ytgkpcboaiaiahaa.V
