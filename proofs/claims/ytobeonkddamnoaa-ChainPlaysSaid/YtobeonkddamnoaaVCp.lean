/- The laws of the group Cp on the plain functions. No condition. -/
import Derived.Test.YtobeonkddamnoaaMCp
import Derived.DataShut
import Derived.Laws.Bits64
import Derived.Laws.BitsLemmas
import Derived.RowKit
import Derived.KernelRfl
namespace Go.Proofs.Ytobeonkddamnoaa.V
open Go.RowKit Go.Proofs.Ytobeonkddamnoaa.C Go.Proofs.Ytobeonkddamnoaa.M Go.Proofs.YtobeonkddamnoaaW.PrintWords
set_option linter.unusedVariables false
set_option linter.unusedSimpArgs false
theorem wrap64_id {n : Int} (h0 : -9223372036854775808 ≤ n) (h1 : n ≤ 9223372036854775807) : wrap64 n = n := by unfold wrap64; omega
/-- What a number counts as. -/
def cnt (n : Int) : Int := max 0 (min n 1125899906842624)
def byv (n : Int) : Int := max 1 (cnt n)
theorem cnt_bounds (n : Int) : 0 ≤ cnt n ∧ cnt n ≤ 1125899906842624 := by unfold cnt; omega
theorem byv_bounds (n : Int) : 1 ≤ byv n ∧ byv n ≤ 1125899906842624 := by have := cnt_bounds n; unfold byv; omega
theorem cnt_id {n : Int} (h : 0 ≤ n) (h' : n ≤ 1125899906842624) : cnt n = n := by unfold cnt; omega
theorem clamp_eq (n lo hi : Int) : ratio_Clamp.f n lo hi = some (if n > hi then hi else if n < lo then lo else n) := by
  unfold ratio_Clamp.f; split <;> (try split) <;> simp_all
theorem counts_eq (n : Int) : ratio_counts.f n = some (cnt n) := by
  unfold ratio_counts.f; rw [clamp_eq]; simp only [Option.bind_some, cnt]
  congr 1
  by_cases h1 : n > 1125899906842624
  · rw [if_pos h1]; omega
  · rw [if_neg h1]
    by_cases h2 : n < 0
    · rw [if_pos h2]; omega
    · rw [if_neg h2]; omega
theorem by_eq (n : Int) : ratio_by.f n = some (byv n) := by
  unfold ratio_by.f byv; rw [counts_eq]; simp only [Option.bind_some]
  by_cases h : cnt n < 1
  · rw [if_pos h]; congr 1; omega
  · rw [if_neg h]; congr 1; omega
theorem tdiv_pos {a b : Int} (h : 0 ≤ a) : Int.tdiv a b = a / b := Int.tdiv_eq_ediv_of_nonneg h
def upv (a b : Int) : Int := (cnt a + byv b - 1) / byv b
theorem div_le {a b : Int} (h : 0 ≤ a) (hb : 1 ≤ b) : 0 ≤ a / b ∧ a / b ≤ a := ⟨Int.ediv_nonneg h (by omega), Int.ediv_le_self _ h⟩
theorem up_eq (a b : Int) : ratio_Up.f a b = some (upv a b) := by
  have ha := cnt_bounds a; have hb := byv_bounds b
  have hd := div_le (a := cnt a + byv b - 1) (by omega) hb.1
  unfold ratio_Up.f upv; simp only [counts_eq, by_eq, Option.bind_some]
  rw [if_neg (by omega), wrap64_id (n := cnt a + byv b) (by omega) (by omega), wrap64_id (n := cnt a + byv b - 1) (by omega) (by omega), tdiv_pos (by omega), wrap64_id (by omega) (by omega)]
theorem up_split {x y : Int} (hy : 1 ≤ y) : (x + y - 1) / y = if x % y > 0 then x / y + 1 else x / y := by
  have e := Int.mul_ediv_add_emod x y
  have h0 := Int.emod_nonneg x (show y ≠ 0 by omega)
  have h1 := Int.emod_lt_of_pos x (show 0 < y by omega)
  split
  · rw [Int.ediv_eq_iff_of_pos (by omega)]
    have : x / y * y = y * (x / y) := Int.mul_comm _ _
    constructor
    · rw [Int.add_mul]; omega
    · rw [Int.add_mul]; omega
  · rw [Int.ediv_eq_iff_of_pos (by omega)]
    have : x / y * y = y * (x / y) := Int.mul_comm _ _
    constructor <;> omega
/-! ### lists -/
theorem rd_at (l : List Int) (j : Nat) (h : j < l.length) : rd l (j : Int) = l[j] := by
  simp [rd, List.getD_eq_getElem?_getD, List.getElem?_eq_getElem h]
theorem drop_at (l : List Int) (j : Nat) (h : j < l.length) : l.drop j = rd l (j : Int) :: l.drop (j + 1) := by
  rw [rd_at l j h]; exact List.drop_eq_getElem_cons h
theorem next_at (j : Nat) (h : j < 100000) : wrap64 ((j : Int) + 1) = ((j + 1 : Nat) : Int) := by
  rw [wrap64_id (by omega) (by omega)]; omega
def sumv : List Int → Int
  | [] => 0
  | n :: l => cnt n + sumv l
def prodv : List Int → Int
  | [] => 1
  | n :: l => cnt n * prodv l
def low (n : Int) : Int := min n 1125899906842624
def zeroIn : List Int → Bool
  | [] => false
  | n :: l => cnt n == 0 || zeroIn l
theorem sumv_nonneg : ∀ l, 0 ≤ sumv l
  | [] => Int.le_refl 0
  | n :: l => by have := sumv_nonneg l; have := cnt_bounds n; simp only [sumv]; omega
theorem prodv_pos : ∀ l, zeroIn l = false → 1 ≤ prodv l
  | [], _ => Int.le_refl 1
  | n :: l, h => by
    simp only [zeroIn, Bool.or_eq_false_iff, beq_eq_false_iff_ne] at h
    have h1 := prodv_pos l h.2
    have h2 := cnt_bounds n
    have h3 : 1 ≤ cnt n := by omega
    simp only [prodv]
    have := Int.mul_le_mul h3 h1 (by omega) (by omega)
    omega
theorem sumv_append (a b : List Int) : sumv (a ++ b) = sumv a + sumv b := by
  induction a with
  | nil => simp [sumv]
  | cons n a ih => simp only [List.cons_append, sumv, ih]; omega
theorem sumv_reverse (l : List Int) : sumv l.reverse = sumv l := by
  induction l with
  | nil => rfl
  | cons n l ih => simp only [List.reverse_cons, sumv_append, sumv, ih]; omega
theorem prodv_append (a b : List Int) : prodv (a ++ b) = prodv a * prodv b := by
  induction a with
  | nil => simp [prodv]
  | cons n a ih => simp only [List.cons_append, prodv, ih, Int.mul_assoc]
theorem prodv_reverse (l : List Int) : prodv l.reverse = prodv l := by
  induction l with
  | nil => rfl
  | cons n l ih => simp only [List.reverse_cons, prodv_append, prodv, ih, Int.mul_one]; exact Int.mul_comm _ _
theorem zeroIn_append (a b : List Int) : zeroIn (a ++ b) = (zeroIn a || zeroIn b) := by
  induction a with
  | nil => rfl
  | cons n a ih => simp only [List.cons_append, zeroIn, ih, Bool.or_assoc]
theorem zeroIn_reverse (l : List Int) : zeroIn l.reverse = zeroIn l := by
  induction l with
  | nil => rfl
  | cons n l ih => simp only [List.reverse_cons, zeroIn_append, zeroIn, ih, Bool.or_false]; exact Bool.or_comm _ _
def addv (l : List Int) : Int := low (sumv l)
def mulv (l : List Int) : Int := if zeroIn l = true then 0 else low (prodv l)
theorem low_bounds {n : Int} (h : 0 ≤ n) : 0 ≤ low n ∧ low n ≤ 1125899906842624 := by unfold low; omega
theorem add_loop (l : List Int) (hl : l.length < 1000) : ∀ (d j k : Nat) (s : Int), j + d = l.length → d < k → 0 ≤ s → s ≤ 1125899906842624 → ratio_Add.lo0 k l s j = some (low (s + sumv (l.drop j))) := by
  intro d
  induction d with
  | zero =>
    intro j k s h hk h0 h1
    obtain ⟨k, rfl⟩ : ∃ q, k = q + 1 := ⟨k - 1, by omega⟩
    rw [ratio_Add.lo0, if_neg (by omega), List.drop_eq_nil_of_le (by omega)]
    simp only [sumv, low]; congr 1; omega
  | succ d ih =>
    intro j k s h hk h0 h1
    obtain ⟨k, rfl⟩ : ∃ q, k = q + 1 := ⟨k - 1, by omega⟩
    have hc := cnt_bounds (rd l j)
    have hs := sumv_nonneg (l.drop (j + 1))
    rw [ratio_Add.lo0, if_pos (by omega), if_pos (by omega), counts_eq, next_at j (by omega)]
    simp only [Option.bind_some]
    rw [wrap64_id (by omega) (by omega), drop_at l j (by omega)]
    split
    · rw [ih (j + 1) k _ (by omega) (by omega) (by omega) (by omega)]
      simp only [sumv, low]
      congr 1
      omega
    · rw [ih (j + 1) k _ (by omega) (by omega) (by omega) (by omega)]
      simp only [sumv]
      congr 2
      omega
theorem add_eq (k : Nat) (hk : 200 ≤ k) (l : List Int) (hl : l.length < 150) : ratio_Add.f k l = some (addv l) := by
  unfold ratio_Add.f
  have := add_loop l (by omega) l.length 0 k 0 (by omega) (by omega) (by omega) (by omega)
  rw [show ((0 : Nat) : Int) = 0 from rfl] at this
  rw [this]
  simp [addv]
theorem low_mul {s c : Int} (h0 : 0 ≤ s) (hc : 1 ≤ c) : low (low s * c) = low (s * c) := by
  unfold low
  by_cases h : s ≤ 1125899906842624
  · rw [show min s 1125899906842624 = s by omega]
  · rw [show min s 1125899906842624 = 1125899906842624 by omega]
    have h1 : 1125899906842624 * c ≤ s * c := Int.mul_le_mul_of_nonneg_right (by omega) (by omega)
    have h2 : 1125899906842624 * 1 ≤ 1125899906842624 * c := Int.mul_le_mul_of_nonneg_left hc (by omega)
    omega
theorem mul_step {s c : Int} (hc : 1 ≤ c) :
    (s ≤ wrap64 (Int.tdiv (1125899906842624 : Int) c)) ↔ s * c ≤ 1125899906842624 := by
  rw [tdiv_pos (by omega), wrap64_id (by have := div_le (a := 1125899906842624) (by omega) hc; omega) (by have := div_le (a := 1125899906842624) (by omega) hc; omega)]
  exact Int.le_ediv_iff_mul_le (by omega)
theorem mul_loop (l : List Int) (hl : l.length < 1000) : ∀ (d j k : Nat) (s : Int), j + d = l.length → d < k → 1 ≤ s → s ≤ 1125899906842624 → zeroIn (l.drop j) = false → ratio_Mul.lo0 k l s j = some (low (s * prodv (l.drop j))) := by
  intro d
  induction d with
  | zero =>
    intro j k s h hk h0 h1 hz
    obtain ⟨k, rfl⟩ : ∃ q, k = q + 1 := ⟨k - 1, by omega⟩
    rw [ratio_Mul.lo0, if_neg (by omega), List.drop_eq_nil_of_le (by omega)]
    simp only [prodv, low, Int.mul_one]; congr 1; omega
  | succ d ih =>
    intro j k s h hk h0 h1 hz
    obtain ⟨k, rfl⟩ : ∃ q, k = q + 1 := ⟨k - 1, by omega⟩
    have hb := cnt_bounds (rd l j)
    rw [drop_at l j (by omega)] at hz ⊢
    simp only [zeroIn, Bool.or_eq_false_iff, beq_eq_false_iff_ne] at hz
    have hc : 1 ≤ cnt (rd l j) := by omega
    have hp := prodv_pos _ hz.2
    have hsc : 1 * 1 ≤ s * cnt (rd l j) := Int.mul_le_mul h0 hc (by omega) (by omega)
    rw [ratio_Mul.lo0, if_pos (by omega), if_pos (by omega), counts_eq, next_at j (by omega)]
    simp only [Option.bind_some]
    rw [if_neg (by omega)]
    have hst := mul_step (s := s) hc
    have e := low_mul (s := s * cnt (rd l j)) (by omega) hp
    simp only [prodv]
    rw [← Int.mul_assoc, ← e]
    by_cases h2 : s * cnt (rd l j) ≤ 1125899906842624
    · rw [if_pos (hst.2 h2), wrap64_id (by omega) (by omega), ih (j + 1) k _ (by omega) (by omega) (by omega) (by omega) hz.2]
      rw [show low (s * cnt (rd l j)) = s * cnt (rd l j) by unfold low; omega]
    · rw [if_neg (fun h => h2 (hst.1 h)), ih (j + 1) k _ (by omega) (by omega) (by omega) (by omega) hz.2]
      rw [show low (s * cnt (rd l j)) = 1125899906842624 by unfold low; omega]
theorem zero_eq (n : Int) : ratio_zero.f n = some (cnt n == 0) := by
  unfold ratio_zero.f; rw [counts_eq]; rfl
theorem idx_loop (l : List Int) (hl : l.length < 1000) : ∀ (d j k : Nat), j + d = l.length → d < k →
    (zeroIn (l.drop j) = false ∧ slices_IndexFunc_int_int_F118.lo0 k l j = some (.out ())) ∨ (zeroIn (l.drop j) = true ∧ ∃ i : Int, 0 ≤ i ∧ slices_IndexFunc_int_int_F118.lo0 k l j = some (.ret i)) := by
  intro d
  induction d with
  | zero =>
    intro j k h hk
    obtain ⟨k, rfl⟩ : ∃ q, k = q + 1 := ⟨k - 1, by omega⟩
    rw [slices_IndexFunc_int_int_F118.lo0, if_neg (by omega), List.drop_eq_nil_of_le (by omega)]
    exact .inl ⟨rfl, rfl⟩
  | succ d ih =>
    intro j k h hk
    obtain ⟨k, rfl⟩ : ∃ q, k = q + 1 := ⟨k - 1, by omega⟩
    rw [drop_at l j (by omega), slices_IndexFunc_int_int_F118.lo0, if_pos (by omega), if_pos (by omega), zero_eq, next_at j (by omega)]
    simp only [Option.bind_some, zeroIn]
    cases hc : cnt (rd l j) == 0
    · simpa using ih (j + 1) k (by omega) (by omega)
    · right; simp
theorem contains_eq (k : Nat) (hk : 200 ≤ k) (l : List Int) (hl : l.length < 150) : slices_ContainsFunc_int_int_F118.f k l = some (zeroIn l) := by
  unfold slices_ContainsFunc_int_int_F118.f slices_IndexFunc_int_int_F118.f
  have := idx_loop l (by omega) l.length 0 k (by omega) (by omega)
  rw [show ((0 : Nat) : Int) = 0 from rfl] at this
  rcases this with ⟨h1, h2⟩ | ⟨h1, i, h0, h2⟩
  · rw [List.drop_zero] at h1; simp [h1, h2, Lp.elim]
  · rw [List.drop_zero] at h1; simp [h1, h2, Lp.elim, h0]
theorem mul_eq (k : Nat) (hk : 200 ≤ k) (l : List Int) (hl : l.length < 150) : ratio_Mul.f k l = some (mulv l) := by
  unfold ratio_Mul.f mulv
  rw [contains_eq k hk l hl]
  simp only [Option.bind_some]
  cases hz : zeroIn l
  · have := mul_loop l (by omega) l.length 0 k 1 (by omega) (by omega) (by omega) (by omega) (by simpa using hz)
    rw [show ((0 : Nat) : Int) = 0 from rfl] at this
    rw [this]
    simp
  · simp
theorem mul2 (k : Nat) (hk : 200 ≤ k) {a b : Int} (ha : 0 ≤ a) (ha' : a ≤ 1125899906842624) (hb : 0 ≤ b) (hb' : b ≤ 1125899906842624) (h : a * b ≤ 1125899906842624) : ratio_Mul.f k [a, b] = some (a * b) := by
  rw [mul_eq k hk _ (by simp)]
  congr 1
  unfold mulv
  simp only [zeroIn, prodv, cnt_id ha ha', cnt_id hb hb', Int.mul_one, Bool.or_false, Bool.or_eq_true, beq_iff_eq]
  by_cases h0 : a = 0 ∨ b = 0
  · rw [if_pos h0]
    rcases h0 with rfl | rfl <;> simp
  · rw [if_neg h0]; unfold low; omega
theorem add2 (k : Nat) (hk : 200 ≤ k) {a b : Int} (ha : 0 ≤ a) (hb : 0 ≤ b) (h : a + b ≤ 1125899906842624) : ratio_Add.f k [a, b] = some (a + b) := by
  rw [add_eq k hk _ (by simp)]
  congr 1
  unfold addv
  simp only [sumv, cnt_id ha (by omega), cnt_id hb (by omega)]
  unfold low; omega
theorem add3 (k : Nat) (hk : 200 ≤ k) {a b c : Int} (ha : 0 ≤ a) (hb : 0 ≤ b) (hc : 0 ≤ c) (h : a + b + c ≤ 1125899906842624) : ratio_Add.f k [a, b, c] = some (a + b + c) := by
  rw [add_eq k hk _ (by simp)]
  congr 1
  unfold addv
  simp only [sumv, cnt_id ha (by omega), cnt_id hb (by omega), cnt_id hc (by omega)]
  unfold low; omega
def ceilv (a b : Int) : Int := (a + b - 1) / b
theorem ceil_spec {x y : Int} (hy : 1 ≤ y) : ceilv x y * y - y < x ∧ x ≤ ceilv x y * y := by
  have e := Int.mul_ediv_add_emod (x + y - 1) y
  have h0 := Int.emod_nonneg (x + y - 1) (show y ≠ 0 by omega)
  have h1 := Int.emod_lt_of_pos (x + y - 1) (show 0 < y by omega)
  have hL : ceilv x y = (x + y - 1) / y := rfl
  rw [← hL, Int.mul_comm] at e
  omega
theorem ceil_bounds {x y : Int} (hx : 0 ≤ x) (hy : 1 ≤ y) : 0 ≤ ceilv x y ∧ ceilv x y ≤ x := by
  have hs := ceil_spec (x := x) hy
  constructor
  · exact Int.ediv_nonneg (by omega) (by omega)
  · rcases Int.lt_or_le x (ceilv x y) with h | h
    · have h1 : x * 1 ≤ x * y := Int.mul_le_mul_of_nonneg_left hy hx
      have h2 : (x + 1) * y ≤ ceilv x y * y := Int.mul_le_mul_of_nonneg_right (by omega) (by omega)
      rw [Int.add_mul] at h2
      omega
    · exact h
theorem ceil_le {x y L : Int} (hy : 1 ≤ y) (h : x ≤ L * y) : ceilv x y ≤ L := by
  have hs := ceil_spec (x := x) hy
  have : (ceilv x y - 1) * y < L * y := by rw [Int.sub_mul]; omega
  have := Int.lt_of_mul_lt_mul_right this (by omega)
  omega
theorem upc (a b : Int) (ha : 0 ≤ a) (ha' : a ≤ 1125899906842624) (hb : 1 ≤ b) (hb' : b ≤ 1125899906842624) : ratio_Up.f a b = some (ceilv a b) := by
  rw [up_eq]
  congr 1
  unfold upv ceilv byv
  rw [cnt_id ha ha', cnt_id (n := b) (by omega) hb', show max 1 b = b by omega]
/-! ### the plan -/
def mayv (N W R K : Int) : Prop := 1 ≤ N ∧ N ≤ 1048576 ∧ 16 ≤ W ∧ W ≤ 256 ∧ 1 ≤ R ∧ R ≤ 4096 ∧ 1 ≤ K ∧ K ≤ 65536 ∧ N * W ≤ 4194304
instance (N W R K : Int) : Decidable (mayv N W R K) := by unfold mayv; infer_instance
theorem nw_small {N W : Int} (h1 : 1 ≤ N) (h2 : N ≤ 1048576) (h3 : 16 ≤ W) (h4 : W ≤ 256) : 16 ≤ N * W ∧ N * W ≤ 268435456 := by
  have a : 1 * 16 ≤ N * W := Int.mul_le_mul h1 h3 (by omega) (by omega)
  have b : N * W ≤ 1048576 * 256 := Int.mul_le_mul h2 h4 (by omega) (by omega)
  omega
theorem within_eq (n lo hi : Int) (_ : lo ≤ hi) : plan_within.f n lo hi = some (decide (lo ≤ n ∧ n ≤ hi)) := by
  unfold plan_within.f
  rw [clamp_eq]
  simp only [Option.bind_some]
  congr 1
  rw [Bool.eq_iff_iff, beq_iff_eq, decide_eq_true_eq]
  by_cases h1 : n > hi
  · rw [if_pos h1]; omega
  · rw [if_neg h1]
    by_cases h2 : n < lo
    · rw [if_pos h2]; omega
    · rw [if_neg h2]; omega
theorem check_eq (N W R K : Int) : plan_Check.f N W R K = some (if mayv N W R K then 0 else 1) := by
  unfold plan_Check.f
  simp only [within_eq _ 1 1048576 (by decide), within_eq _ 16 256 (by decide), within_eq _ 1 4096 (by decide), within_eq _ 1 65536 (by decide), Option.bind_some, decide_eq_true_eq]
  by_cases h1 : 1 ≤ N ∧ N ≤ 1048576
  · rw [if_pos h1]
    by_cases h2 : 16 ≤ W ∧ W ≤ 256
    · rw [if_pos h2]
      have := nw_small h1.1 h1.2 h2.1 h2.2
      rw [wrap64_id (by omega) (by omega)]
      by_cases h3 : 1 ≤ R ∧ R ≤ 4096
      · rw [if_pos h3]
        by_cases h4 : 1 ≤ K ∧ K ≤ 65536
        · rw [if_pos h4]
          by_cases h5 : N * W ≤ 4194304
          · rw [if_pos h5, if_pos (show mayv N W R K by unfold mayv; omega)]
          · rw [if_neg h5, if_neg (show ¬ mayv N W R K by unfold mayv; omega)]
        · rw [if_neg h4, if_neg (show ¬ mayv N W R K by unfold mayv; omega)]
      · rw [if_neg h3, if_neg (show ¬ mayv N W R K by unfold mayv; omega)]
    · rw [if_neg h2, if_neg (show ¬ mayv N W R K by unfold mayv; omega)]
  · rw [if_neg h1, if_neg (show ¬ mayv N W R K by unfold mayv; omega)]
def drainv (N W : Int) : Int := N * (W + 1)
def epochv (N W : Int) : Int := 3 * drainv N W + 4
def lagv (N W K : Int) : Int := 2 * ceilv (epochv N W) K + 2 * (W - 7)
def settlev (N W K : Int) : Int := ceilv (epochv N W + epochv N W + drainv N W) K + 2
def ofv (N W R K : Int) : Int × Int × Int × Int × Int × Int × Int × Int × Int :=
  if mayv N W R K then (24 + R + N * W, W - 8, W - 7, (W - 8) * (W - 1), epochv N W, drainv N W, lagv N W K, settlev N W K, 0) else (0, 0, 0, 0, 0, 0, 0, 0, 1)
theorem drain_bounds {N W R K : Int} (h : mayv N W R K) : 17 ≤ drainv N W ∧ drainv N W ≤ 5242880 ∧ drainv N W = N * W + N := by
  obtain ⟨a, b, c, d, _, _, _, _, e⟩ := h
  have := nw_small a b c d
  have e : drainv N W = N * W + N := by unfold drainv; rw [Int.mul_add]; omega
  omega
theorem of_eq (k : Nat) (hk : 200 ≤ k) (N W R K : Int) : plan_Of.f k N W R K = some (ofv N W R K) := by
  unfold plan_Of.f ofv
  rw [check_eq]
  simp only [Option.bind_some]
  by_cases h : mayv N W R K
  · simp only [if_pos h]
    rw [if_pos trivial]
    have hd := drain_bounds h
    obtain ⟨a, b, c, d, e, f, g, i, j⟩ := h
    have hs := nw_small a b c d
    have hf : (W - 8) * (W - 1) ≤ 248 * 255 := Int.mul_le_mul (by omega) (by omega) (by omega) (by omega)
    have hdr : N * (W + 1) = drainv N W := rfl
    have hep : 3 * drainv N W + 4 = epochv N W := rfl
    rw [wrap64_id (n := W - 8) (by omega) (by omega), wrap64_id (n := W - 1) (by omega) (by omega), wrap64_id (n := W + 1) (by omega) (by omega), wrap64_id (n := W - 8 + 1) (by omega) (by omega)]
    have c1 := ceil_bounds (x := epochv N W) (y := K) (by omega) g
    have c2 := ceil_bounds (x := epochv N W + epochv N W + drainv N W) (y := K) (by omega) g
    rw [mul2 k hk (a := N) (b := W) (by omega) (by omega) (by omega) (by omega) (by omega)]
    simp only [Option.bind_some]
    rw [add3 k hk (by omega) (by omega) (by omega) (by omega)]
    simp only [Option.bind_some]
    rw [mul2 k hk (a := W - 8) (b := W - 1) (by omega) (by omega) (by omega) (by omega) (by omega)]
    simp only [Option.bind_some]
    rw [mul2 k hk (a := N) (b := W + 1) (by omega) (by omega) (by omega) (by omega) (by omega), hdr]
    simp only [Option.bind_some]
    rw [mul2 k hk (a := 3) (b := drainv N W) (by omega) (by omega) (by omega) (by omega) (by omega)]
    simp only [Option.bind_some]
    rw [add2 k hk (by omega) (by omega) (by omega), hep]
    simp only [Option.bind_some]
    rw [upc _ _ (by omega) (by omega) g (by omega)]
    simp only [Option.bind_some]
    rw [mul2 k hk (a := 2) (b := ceilv (epochv N W) K) (by omega) (by omega) (by omega) (by omega) (by omega)]
    simp only [Option.bind_some]
    rw [show W - 8 + 1 = W - 7 by omega, mul2 k hk (a := 2) (b := W - 7) (by omega) (by omega) (by omega) (by omega) (by omega)]
    simp only [Option.bind_some]
    rw [add2 k hk (by omega) (by omega) (by omega)]
    simp only [Option.bind_some]
    rw [add3 k hk (by omega) (by omega) (by omega) (by omega)]
    simp only [Option.bind_some]
    rw [upc _ _ (by omega) (by omega) g (by omega)]
    simp only [Option.bind_some]
    rw [add2 k hk (by omega) (by omega) (by omega)]
    rfl
  · simp only [if_neg h]
    rw [if_neg (by decide)]
theorem has_eq (l : List Int) (m a : Int) : store_Store_has.f l m a = some (decide (0 ≤ a ∧ a < (l.length : Int))) := by
  unfold store_Store_has.f
  by_cases h : a ≥ 0
  · rw [if_pos h]; congr 1; exact decide_eq_decide.2 (by omega)
  · rw [if_neg h]; congr 1; exact (decide_eq_false (by omega)).symm
theorem put_eq (l : List Int) (m i w : Int) : store_Store_Put.f l m i w = some (if 0 ≤ i ∧ i < (l.length : Int) then (true, IntKind.u64.wrap (m + 1), l.set i.toNat w) else (false, m, l)) := by
  unfold store_Store_Put.f
  rw [has_eq]
  simp only [Option.bind_some, decide_eq_true_eq]
  by_cases h : 0 ≤ i ∧ i < (l.length : Int)
  · rw [if_pos h, if_pos h]
    simp only [atomic_Uint64_Add.f, Option.bind_some]
    rw [if_pos h.1, if_pos h.2]
  · rw [if_neg h, if_neg h]
theorem get_eq (l : List Int) (m i : Int) : store_Store_Get.f l m i = some (if 0 ≤ i ∧ i < (l.length : Int) then (rd l i, IntKind.u64.wrap (m + 1)) else (0, m)) := by
  unfold store_Store_Get.f
  rw [has_eq]
  simp only [Option.bind_some, decide_eq_true_eq]
  by_cases h : 0 ≤ i ∧ i < (l.length : Int)
  · rw [if_pos h, if_pos h]
    simp only [atomic_Uint64_Add.f, Option.bind_some]
    rw [if_pos h.1, if_pos h.2]
  · rw [if_neg h, if_neg h]
theorem peek_eq (l : List Int) (m i : Int) : store_Store_Peek.f l m i = some (if 0 ≤ i ∧ i < (l.length : Int) then rd l i else 0) := by
  unfold store_Store_Peek.f
  rw [has_eq]
  simp only [Option.bind_some, decide_eq_true_eq]
  by_cases h : 0 ≤ i ∧ i < (l.length : Int)
  · rw [if_pos h, if_pos h, if_pos h.1, if_pos h.2]
  · rw [if_neg h, if_neg h]
theorem new_in (n : Int) (h0 : 0 ≤ n) (h1 : n ≤ 8388608) : store_New.f n = some (.inr (List.replicate n.toNat 0)) := by
  unfold store_New.f
  rw [if_neg (by omega), if_neg (by omega)]
  unfold M.mkLen
  rw [if_pos (by omega)]
  rfl
theorem new_out (n : Int) (h : n < 0 ∨ 8388608 < n) : store_New.f n = some (.inl ()) := by
  unfold store_New.f
  by_cases h0 : n < 0
  · rw [if_pos h0]
  · rw [if_neg h0, if_pos (by omega)]
theorem rd_nat (l : List Int) (j : Nat) (h : j < l.length) : rd l (j : Int) = l[j] := by
  simp [rd, List.getD_eq_getElem?_getD, List.getElem?_eq_getElem h]
theorem rd_set (l : List Int) (i j : Int) (x : Int) (h0 : 0 ≤ i) (h1 : i < (l.length : Int)) (h2 : 0 ≤ j) : rd (l.set i.toNat x) j = if i = j then x else rd l j := by
  simp only [rd, List.getD_eq_getElem?_getD, List.getElem?_set]
  by_cases h : i = j
  · subst h; rw [if_pos rfl, if_pos (show i.toNat < l.length by omega), if_pos rfl]; rfl
  · rw [if_neg (show ¬ i.toNat = j.toNat by omega), if_neg h]
theorem next_i (j : Nat) (h : j < 4611686018427387904) : wrap64 ((j : Int) + 1) = ((j + 1 : Nat) : Int) := by
  unfold wrap64; omega
theorem w0 : wrap64 0 = 0 := by unfold wrap64; decide
theorem mayW {N W R K : Int} (h : mayv N W R K) : 0 ≤ 24 + R + N * W ∧ 24 + R + N * W ≤ 8388608 := by
  have := nw_small h.1 h.2.1 h.2.2.1 h.2.2.2.1
  unfold mayv at h
  generalize N * W = q at *
  omega
/-- How many words a ground has. -/
def sizev (N W R : Int) : Nat := (24 + R + N * W).toNat
theorem size_cast {N W R K : Int} (h : mayv N W R K) : ((sizev N W R : Nat) : Int) = 24 + R + N * W := by
  unfold sizev; have := (mayW h).1; omega
theorem gnew_may (k : Nat) (hk : 200 ≤ k) (N W R K : Int) (h : mayv N W R K) : ground_New.f k N W R K = some (.inr (.inl (N, W, R, K, List.replicate (sizev N W R) 0))) := by
  unfold ground_New.f
  rw [of_eq k hk]
  unfold ofv
  simp only [Option.bind_some]
  rw [if_pos h]
  simp only [if_true]
  rw [new_in _ (mayW h).1 (mayW h).2]
  rfl
theorem gnew_not (k : Nat) (hk : 200 ≤ k) (N W R K : Int) (h : ¬ mayv N W R K) : ground_New.f k N W R K = some (.inr (.inr 1)) := by
  unfold ground_New.f
  rw [of_eq k hk]
  unfold ofv
  simp only [Option.bind_some]
  rw [if_neg h]
  rfl
theorem May_eq (N W R K : Int) : quitrentref03_May.f N W R K = some (decide (mayv N W R K)) := by
  unfold quitrentref03_May.f
  by_cases h1 : N < 1
  · rw [if_pos h1]; congr 1; exact (decide_eq_false (by unfold mayv; omega)).symm
  by_cases h2 : N > 1048576
  · rw [if_neg h1, if_pos h2]; congr 1; exact (decide_eq_false (by unfold mayv; omega)).symm
  by_cases h3 : W < 16
  · rw [if_neg h1, if_neg h2, if_pos h3]; congr 1; exact (decide_eq_false (by unfold mayv; omega)).symm
  by_cases h4 : W > 256
  · rw [if_neg h1, if_neg h2, if_neg h3, if_pos h4]; congr 1; exact (decide_eq_false (by unfold mayv; omega)).symm
  by_cases h5 : R < 1
  · rw [if_neg h1, if_neg h2, if_neg h3, if_neg h4, if_pos h5]; congr 1; exact (decide_eq_false (by unfold mayv; omega)).symm
  by_cases h6 : R > 4096
  · rw [if_neg h1, if_neg h2, if_neg h3, if_neg h4, if_neg h5, if_pos h6]; congr 1; exact (decide_eq_false (by unfold mayv; omega)).symm
  by_cases h7 : K < 1
  · rw [if_neg h1, if_neg h2, if_neg h3, if_neg h4, if_neg h5, if_neg h6, if_pos h7]; congr 1; exact (decide_eq_false (by unfold mayv; omega)).symm
  by_cases h8 : K > 65536
  · rw [if_neg h1, if_neg h2, if_neg h3, if_neg h4, if_neg h5, if_neg h6, if_neg h7, if_pos h8]; congr 1; exact (decide_eq_false (by unfold mayv; omega)).symm
  rw [if_neg h1, if_neg h2, if_neg h3, if_neg h4, if_neg h5, if_neg h6, if_neg h7, if_neg h8]
  have := nw_small (N := N) (W := W) (by omega) (by omega) (by omega) (by omega)
  rw [wrap64_id (n := N * W) (by omega) (by omega)]
  congr 1
  exact decide_eq_decide.2 (by unfold mayv; generalize N * W = q at *; omega)
def littlev (N W R : Int) : Prop := N ≤ 300 ∧ W ≤ 64 ∧ R ≤ 40
instance (N W R : Int) : Decidable (littlev N W R) := by unfold littlev; infer_instance
theorem Little_eq (N W R K : Int) : quitrentref05_Little.f N W R K = some (decide (littlev N W R)) := by
  unfold quitrentref05_Little.f
  by_cases h1 : N ≤ 300
  · by_cases h2 : W ≤ 64
    · rw [if_pos h1, if_pos h2]; congr 1; exact decide_eq_decide.2 (by unfold littlev; omega)
    · rw [if_pos h1, if_neg h2]; congr 1; exact (decide_eq_false (by unfold littlev; omega)).symm
  · rw [if_neg h1]; congr 1; exact (decide_eq_false (by unfold littlev; omega)).symm
theorem within_in (i m f : Int) (h0 : 0 ≤ i) (h1 : i < m) : ground_within.f i m f = some (wrap64 (f + i)) := by
  unfold ground_within.f
  rw [if_neg (by omega), if_neg (by omega)]
theorem within_out (i m f : Int) (h : i < 0 ∨ m ≤ i) : ground_within.f i m f = some (-1) := by
  unfold ground_within.f
  by_cases h0 : i < 0
  · rw [if_pos h0]
  · rw [if_neg h0, if_pos (by omega)]
/-- Where a register, a root slot and a block's word are; none: there is none. -/
def regv (i : Int) : Option Nat := if 0 ≤ i ∧ i < 24 then some i.toNat else none
def rootv (R i : Int) : Option Nat := if 0 ≤ i ∧ i < R then some (24 + i).toNat else none
def wordv (N W R b w : Int) : Option Nat := if (0 ≤ b ∧ b < N) ∧ 0 ≤ w ∧ w < W then some (24 + R + b * W + w).toNat else none
def posv : Option Nat → Int
  | some n => n
  | none => -1
theorem reg_eq (i : Int) : ground_reg.f i = some (posv (regv i)) := by
  unfold ground_reg.f regv
  by_cases h : 0 ≤ i ∧ i < 24
  · rw [within_in _ _ _ h.1 h.2, if_pos h, wrap64_id (by omega) (by omega)]
    simp only [Option.bind_some, posv]; congr 1; omega
  · rw [within_out _ _ _ (by omega), if_neg h]; rfl
theorem bw_small {N W R K b : Int} (h : mayv N W R K) (h0 : 0 ≤ b) (h1 : b < N) : 0 ≤ b * W ∧ b * W + W ≤ N * W := by
  have hW : (0 : Int) ≤ W := by unfold mayv at h; omega
  constructor
  · exact Int.mul_nonneg h0 hW
  · have := Int.mul_le_mul_of_nonneg_right (show b + 1 ≤ N by omega) hW
    rw [Int.add_mul, Int.one_mul] at this
    exact this
theorem word_eq (l : List Int) (m N W R K b w : Int) (h : mayv N W R K) : ground_Ground_word.f l m N W R K b w = some (posv (wordv N W R b w)) := by
  unfold ground_Ground_word.f ground_Ground_Conf.f wordv
  simp only [Option.bind_some]
  by_cases hb : 0 ≤ b ∧ b < N
  · rw [within_in _ _ _ hb.1 hb.2]
    simp only [Option.bind_some]
    have hs := bw_small h hb.1 hb.2
    have hn := nw_small h.1 h.2.1 h.2.2.1 h.2.2.2.1
    unfold mayv at h
    rw [wrap64_id (n := 0 + b) (by omega) (by omega), if_neg (by omega), wrap64_id (n := 24 + R) (by omega) (by omega)]
    generalize b * W = q at *
    generalize N * W = t at *
    rw [wrap64_id (n := q) (by omega) (by omega), wrap64_id (n := 24 + R + q) (by omega) (by omega)]
    by_cases hw : 0 ≤ w ∧ w < W
    · rw [within_in _ _ _ hw.1 hw.2, if_pos ⟨hb, hw⟩, wrap64_id (by omega) (by omega)]
      simp only [Option.bind_some, posv]; congr 1; omega
    · rw [within_out _ _ _ (by omega), if_neg (fun h => hw h.2)]; rfl
  · rw [within_out _ _ _ (by omega), if_neg (fun h => hb h.1)]
    rfl
/-- What a ground of so many words does at a place. -/
theorem regv_lt {N W R K : Int} (h : mayv N W R K) {i : Int} {p : Nat} (hp : regv i = some p) : p < sizev N W R ∧ (p : Int) = i ∧ p < 24 := by
  unfold regv at hp
  split at hp
  · cases hp
    have := size_cast h
    have := (nw_small h.1 h.2.1 h.2.2.1 h.2.2.2.1)
    unfold mayv at h
    generalize N * W = q at *
    omega
  · cases hp
theorem rootv_lt {N W R K : Int} (h : mayv N W R K) {i : Int} {p : Nat} (hp : rootv R i = some p) : p < sizev N W R ∧ (p : Int) = 24 + i ∧ (p : Int) < 24 + R ∧ 24 ≤ p := by
  unfold rootv at hp
  split at hp
  · cases hp
    have := size_cast h
    have := (nw_small h.1 h.2.1 h.2.2.1 h.2.2.2.1)
    unfold mayv at h
    generalize N * W = q at *
    omega
  · cases hp
theorem wordv_lt {N W R K : Int} (h : mayv N W R K) {b w : Int} {p : Nat} (hp : wordv N W R b w = some p) : p < sizev N W R ∧ (p : Int) = 24 + R + b * W + w ∧ 24 + R ≤ (p : Int) ∧ 0 ≤ w ∧ w < W ∧ 0 ≤ b ∧ b < N := by
  unfold wordv at hp
  split at hp
  · next hc =>
    cases hp
    have := size_cast h
    have hs := bw_small h hc.1.1 hc.1.2
    unfold mayv at h
    generalize b * W = q at *
    generalize N * W = t at *
    omega
  · cases hp
/-- What is got at a place, and the meter then. -/
def sgetv (l : List Int) (m : Int) (p : Option Nat) : Int × Int := match p with
  | some n => (rd l (n : Int), IntKind.u64.wrap (m + 1))
  | none => (0, m)
def sputv (l : List Int) (m : Int) (p : Option Nat) (v : Int) : Bool × Int × List Int := match p with
  | some n => (true, IntKind.u64.wrap (m + 1), l.set n v)
  | none => (false, m, l)
theorem sget_eq (l : List Int) (m : Int) (p : Option Nat) (hp : ∀ n, p = some n → n < l.length) : store_Store_Get.f l m (posv p) = some (sgetv l m p) := by
  rw [get_eq]
  cases p with
  | none => rw [if_neg (by simp [posv])]; rfl
  | some n => have := hp n rfl; rw [if_pos (by simp [posv]; omega)]; rfl
theorem sput_eq (l : List Int) (m : Int) (p : Option Nat) (v : Int) (hp : ∀ n, p = some n → n < l.length) : store_Store_Put.f l m (posv p) v = some (sputv l m p v) := by
  rw [put_eq]
  cases p with
  | none => rw [if_neg (by simp [posv])]; rfl
  | some n => have := hp n rfl; rw [if_pos (by simp [posv]; omega)]; simp [sputv, posv]
/-- A ground that may be: so many words, each of 32 bits. -/
structure OK (N W R K : Int) (l : List Int) : Prop where
  may : mayv N W R K
  len : l.length = sizev N W R
  u32 : ∀ i : Nat, 0 ≤ rd l (i : Int) ∧ rd l (i : Int) < 4294967296
theorem rd_out (l : List Int) (i : Nat) (h : l.length ≤ i) : rd l (i : Int) = 0 := by
  simp [rd, List.getD_eq_getElem?_getD, List.getElem?_eq_none h]
theorem rd_setN (l : List Int) (i j : Nat) (x : Int) (h : i < l.length) : rd (l.set i x) (j : Int) = if i = j then x else rd l (j : Int) := by
  have := rd_set l (i : Int) (j : Int) x (by omega) (by omega) (by omega)
  simp only [Int.toNat_natCast] at this
  rw [this]
  by_cases h : i = j
  · rw [if_pos (by omega), if_pos h]
  · rw [if_neg (by omega), if_neg h]
theorem OK.set {N W R K : Int} {l : List Int} (h : OK N W R K l) (n : Nat) (v : Int) (h0 : 0 ≤ v) (h1 : v < 4294967296) : OK N W R K (l.set n v) := by
  refine ⟨h.may, by rw [List.length_set]; exact h.len, fun i => ?_⟩
  rcases Nat.lt_or_ge n l.length with hn | hn
  · rw [rd_setN l n i v hn]
    split
    · exact ⟨h0, h1⟩
    · exact h.u32 i
  · rw [List.set_eq_of_length_le hn]; exact h.u32 i
theorem OK.zero {N W R K : Int} (h : mayv N W R K) : OK N W R K (List.replicate (sizev N W R) 0) := by
  refine ⟨h, by simp, fun i => ?_⟩
  have : rd (List.replicate (sizev N W R) (0 : Int)) (i : Int) = 0 := by
    simp only [rd, List.getD_eq_getElem?_getD, List.getElem?_replicate, Int.toNat_natCast]
    split <;> rfl
  rw [this]; decide
theorem OK.small {N W R K : Int} {l : List Int} (h : OK N W R K l) : l.length ≤ 8388608 := by
  have := size_cast h.may
  have := mayW h.may
  have := h.len
  omega
theorem Reg_eq {N W R K : Int} {l : List Int} (h : OK N W R K l) (m i : Int) : ground_Ground_Reg.f l m N W R K i = some (sgetv l m (regv i)) := by
  unfold ground_Ground_Reg.f ground_Ground_all.f
  simp only [Option.bind_some]
  rw [reg_eq]
  simp only [Option.bind_some]
  rw [sget_eq l m _ (fun n hn => by rw [h.len]; exact (regv_lt h.may hn).1)]
  simp only [Option.bind_some]
  congr 1
  cases hr : regv i with
  | none => show (wrap64 0, m) = (0, m); rw [w0]
  | some n => have := h.u32 n; simp only [sgetv]; rw [wrap64_id (by omega) (by omega)]
theorem Word_eq {N W R K : Int} {l : List Int} (h : OK N W R K l) (m b w : Int) : ground_Ground_Word.f l m N W R K b w = some (sgetv l m (wordv N W R b w)) := by
  unfold ground_Ground_Word.f ground_Ground_all.f
  simp only [Option.bind_some]
  rw [word_eq l m N W R K b w h.may]
  simp only [Option.bind_some]
  rw [sget_eq l m _ (fun n hn => by rw [h.len]; exact (wordv_lt h.may hn).1)]
  rfl
theorem set_eq {N W R K : Int} {l : List Int} (m : Int) (p : Option Nat) (hp : ∀ n, p = some n → n < l.length) (v : Int) : ground_Ground_set.f l m N W R K (posv p) v = some (if 0 ≤ v ∧ v < 4294967296 then sputv l m p v else (false, m, l)) := by
  unfold ground_Ground_set.f ground_Ground_all.f
  by_cases h0 : v < 0
  · rw [if_pos h0, if_neg (by omega)]
  · by_cases h1 : v > 4294967295
    · rw [if_neg h0, if_pos h1, if_neg (by omega)]
    · rw [if_neg h0, if_neg h1, if_pos (by omega)]
      simp only [Option.bind_some]
      rw [show v % 4294967296 = v by omega, sput_eq l m p v hp]
      rfl
theorem SetReg_eq {N W R K : Int} {l : List Int} (h : OK N W R K l) (m i v : Int) : ground_Ground_SetReg.f l m N W R K i v = some (if 0 ≤ v ∧ v < 4294967296 then sputv l m (regv i) v else (false, m, l)) := by
  unfold ground_Ground_SetReg.f
  rw [reg_eq]
  simp only [Option.bind_some]
  rw [set_eq m _ (fun n hn => by rw [h.len]; exact (regv_lt h.may hn).1)]
  rfl
theorem SetWord_eq {N W R K : Int} {l : List Int} (h : OK N W R K l) (m b w v : Int) : ground_Ground_SetWord.f l m N W R K b w v = some (sputv l m (wordv N W R b w) v) := by
  unfold ground_Ground_SetWord.f ground_Ground_all.f
  simp only [Option.bind_some]
  rw [word_eq l m N W R K b w h.may]
  simp only [Option.bind_some]
  rw [sput_eq l m _ v (fun n hn => by rw [h.len]; exact (wordv_lt h.may hn).1)]
  rfl
theorem Meter_eq (l : List Int) (m N W R K : Int) : ground_Ground_Meter.f l m N W R K = some m := rfl
theorem mul_apart {W b c v w : Int} (hv : 0 ≤ v) (hv' : v < W) (hw : 0 ≤ w) (hw' : w < W) (h : b * W + v = c * W + w) : b = c ∧ v = w := by
  have hb : b = c := by
    rcases Int.lt_trichotomy b c with h1 | h1 | h1
    · have := Int.mul_le_mul_of_nonneg_right (show b + 1 ≤ c by omega) (show 0 ≤ W by omega)
      rw [Int.add_mul, Int.one_mul] at this
      omega
    · exact h1
    · have := Int.mul_le_mul_of_nonneg_right (show c + 1 ≤ b by omega) (show 0 ≤ W by omega)
      rw [Int.add_mul, Int.one_mul] at this
      omega
  subst hb
  exact ⟨rfl, by omega⟩
/-- The place of a block's link word. -/
def linkp (W R b : Int) : Nat := (24 + R + b * W + 5).toNat
def link (W R : Int) (l : List Int) (b : Int) : Int := rd l (linkp W R b : Int)
theorem linkp_eq {N W R K : Int} (h : mayv N W R K) {b : Int} (hb : 0 ≤ b ∧ b < N) : wordv N W R b 5 = some (linkp W R b) := by
  unfold wordv linkp
  rw [if_pos ⟨hb, by decide, by have := h.2.2.1; omega⟩]
theorem linkp_lt {N W R K : Int} (h : mayv N W R K) {b : Int} (hb : 0 ≤ b ∧ b < N) : linkp W R b < sizev N W R ∧ 24 ≤ linkp W R b := by
  have := wordv_lt h (linkp_eq h hb)
  have hR := h.2.2.2.2.1
  omega
theorem linkp_inj {N W R K : Int} (h : mayv N W R K) {b c : Int} (hb : 0 ≤ b ∧ b < N) (hc : 0 ≤ c ∧ c < N) (e : linkp W R b = linkp W R c) : b = c := by
  have h1 := wordv_lt h (linkp_eq h hb)
  have h2 := wordv_lt h (linkp_eq h hc)
  have hW := h.2.2.1
  exact (mul_apart (W := W) (v := 5) (w := 5) (by decide) (by omega) (by decide) (by omega) (b := b) (c := c) (by omega)).1
theorem link_set {N W R K : Int} (h : mayv N W R K) {l : List Int} (hl : l.length = sizev N W R) {b c v : Int} (hb : 0 ≤ b ∧ b < N) (hc : 0 ≤ c ∧ c < N) : link W R (l.set (linkp W R b) v) c = if b = c then v else link W R l c := by
  unfold link
  rw [rd_setN _ _ _ _ (by rw [hl]; exact (linkp_lt h hb).1)]
  by_cases e : b = c
  · rw [if_pos (by rw [e]), if_pos e]
  · rw [if_neg (fun q => e (linkp_inj h hb hc q)), if_neg e]
theorem reg_link {N W R K : Int} (h : mayv N W R K) {l : List Int} (hl : l.length = sizev N W R) {b v : Int} (hb : 0 ≤ b ∧ b < N) {i : Nat} (hi : i < 24) : rd (l.set (linkp W R b) v) (i : Int) = rd l (i : Int) := by
  rw [rd_setN _ _ _ _ (by rw [hl]; exact (linkp_lt h hb).1), if_neg (by have := (linkp_lt h hb).2; omega)]
theorem size24 {N W R K : Int} (h : mayv N W R K) : 24 ≤ sizev N W R := by
  have := size_cast h
  have := nw_small h.1 h.2.1 h.2.2.1 h.2.2.2.1
  have hR := h.2.2.2.2.1
  generalize N * W = q at *
  omega
theorem link_reg {N W R K : Int} (h : mayv N W R K) {l : List Int} (hl : l.length = sizev N W R) {c v : Int} (hc : 0 ≤ c ∧ c < N) {i : Nat} (hi : i < 24) : link W R (l.set i v) c = link W R l c := by
  unfold link
  rw [rd_setN _ _ _ _ (by have := size24 h; omega), if_neg (by have := (linkp_lt h hc).2; omega)]
theorem reg_reg {N W R K : Int} (h : mayv N W R K) {l : List Int} (hl : l.length = sizev N W R) {v : Int} {i j : Nat} (hi : i < 24) : rd (l.set i v) (j : Int) = if i = j then v else rd l (j : Int) := by
  rw [rd_setN _ _ _ _ (by have := size24 h; omega)]
/-- So many accesses at most. -/
def Acc (c : Nat) (m m' : Int) : Prop := ∃ d : Nat, d ≤ c ∧ IntKind.u64.wrap m' = IntKind.u64.wrap (m + (d : Int))
theorem wrapu (n : Int) : IntKind.u64.wrap n = n % 18446744073709551616 := by
  unfold IntKind.wrap; simp [IntKind.signed, IntKind.bits]
theorem Acc.refl (c : Nat) (m : Int) : Acc c m m := ⟨0, Nat.zero_le _, by simp⟩
theorem Acc.step {c : Nat} {m m' : Int} (h : Acc c m m') : Acc (c + 1) m (IntKind.u64.wrap (m' + 1)) := by
  obtain ⟨d, hd, e⟩ := h
  refine ⟨d + 1, by omega, ?_⟩
  rw [wrapu, wrapu] at e
  rw [wrapu, wrapu, wrapu]
  omega
theorem Acc.trans {c d : Nat} {m m' m'' : Int} (h : Acc c m m') (k : Acc d m' m'') : Acc (c + d) m m'' := by
  obtain ⟨a, ha, e⟩ := h
  obtain ⟨b, hb, f⟩ := k
  refine ⟨a + b, by omega, ?_⟩
  rw [wrapu, wrapu] at e f
  rw [wrapu, wrapu]
  omega
theorem Acc.mono {c d : Nat} {m m' : Int} (h : Acc c m m') (hcd : c ≤ d) : Acc d m m' := by
  obtain ⟨a, ha, e⟩ := h
  exact ⟨a, by omega, e⟩
theorem Acc.sub {c : Nat} {m m' : Int} (h : Acc c m m') (hc : c < 1000000) : IntKind.u64.wrap (m' - m) ≤ (c : Int) := by
  obtain ⟨a, ha, e⟩ := h
  rw [wrapu, wrapu] at e
  rw [wrapu]
  omega
/-- The place of a block's word. -/
def wp (W R b w : Int) : Nat := (24 + R + b * W + w).toNat
def word (W R : Int) (l : List Int) (b w : Int) : Int := rd l (wp W R b w : Int)
theorem wp_eq {N W R K : Int} (h : mayv N W R K) {b w : Int} (hb : 0 ≤ b ∧ b < N) (hw : 0 ≤ w ∧ w < W) : wordv N W R b w = some (wp W R b w) := by
  unfold wordv wp
  rw [if_pos ⟨hb, hw⟩]
theorem wp_lt {N W R K : Int} (h : mayv N W R K) {b w : Int} (hb : 0 ≤ b ∧ b < N) (hw : 0 ≤ w ∧ w < W) : wp W R b w < sizev N W R ∧ 24 ≤ wp W R b w := by
  have := wordv_lt h (wp_eq h hb hw)
  have hR := h.2.2.2.2.1
  omega
theorem wp_inj {N W R K : Int} (h : mayv N W R K) {b c v w : Int} (hb : 0 ≤ b ∧ b < N) (hc : 0 ≤ c ∧ c < N) (hv : 0 ≤ v ∧ v < W) (hw : 0 ≤ w ∧ w < W) (e : wp W R b v = wp W R c w) : b = c ∧ v = w := by
  have h1 := wordv_lt h (wp_eq h hb hv)
  have h2 := wordv_lt h (wp_eq h hc hw)
  exact mul_apart (W := W) hv.1 hv.2 hw.1 hw.2 (b := b) (c := c) (by omega)
theorem word_set {N W R K : Int} (h : mayv N W R K) {l : List Int} (hl : l.length = sizev N W R) {b c v w x : Int} (hb : 0 ≤ b ∧ b < N) (hc : 0 ≤ c ∧ c < N) (hv : 0 ≤ v ∧ v < W) (hw : 0 ≤ w ∧ w < W) : word W R (l.set (wp W R b v) x) c w = if b = c ∧ v = w then x else word W R l c w := by
  unfold word
  rw [rd_setN _ _ _ _ (by rw [hl]; exact (wp_lt h hb hv).1)]
  by_cases e : b = c ∧ v = w
  · rw [if_pos (by rw [e.1, e.2]), if_pos e]
  · rw [if_neg (fun q => e (wp_inj h hb hc hv hw q)), if_neg e]
theorem reg_word {N W R K : Int} (h : mayv N W R K) {l : List Int} (hl : l.length = sizev N W R) {b v x : Int} (hb : 0 ≤ b ∧ b < N) (hv : 0 ≤ v ∧ v < W) {i : Nat} (hi : i < 24) : rd (l.set (wp W R b v) x) (i : Int) = rd l (i : Int) := by
  rw [rd_setN _ _ _ _ (by rw [hl]; exact (wp_lt h hb hv).1), if_neg (by have := (wp_lt h hb hv).2; omega)]
theorem word_reg {N W R K : Int} (h : mayv N W R K) {l : List Int} (hl : l.length = sizev N W R) {c v x : Int} (hc : 0 ≤ c ∧ c < N) (hv : 0 ≤ v ∧ v < W) {i : Nat} (hi : i < 24) : word W R (l.set i x) c v = word W R l c v := by
  unfold word
  rw [rd_setN _ _ _ _ (by have := size24 h; omega), if_neg (by have := (wp_lt h hc hv).2; omega)]
theorem five {N W R K : Int} (h : mayv N W R K) : (0 : Int) ≤ 5 ∧ 5 < W := by have := h.2.2.1; omega
/-- What a chain's operations leave as it was. -/
structure Fram (N W R : Int) (r : Nat) (l l' : List Int) : Prop where
  regs : ∀ i : Nat, i < 24 → (i < r ∨ r + 2 < i) → rd l' (i : Int) = rd l (i : Int)
  words : ∀ b w : Int, 0 ≤ b ∧ b < N → 0 ≤ w ∧ w < W → w ≠ 5 → word W R l' b w = word W R l b w
theorem Fram.refl {N W R : Int} {r : Nat} (l : List Int) : Fram N W R r l l := ⟨fun _ _ _ => rfl, fun _ _ _ _ _ => rfl⟩
theorem Fram.reg {N W R K : Int} (h : mayv N W R K) {r i : Nat} {l m : List Int} (hl : m.length = sizev N W R) (hi : i < 24 ∧ r ≤ i ∧ i ≤ r + 2) {v : Int} (hf : Fram N W R r l m) : Fram N W R r l (m.set i v) :=
  ⟨fun j hj hd => by rw [reg_reg h hl hi.1, if_neg (by omega)]; exact hf.regs j hj hd, fun b w hb hw hn => by rw [word_reg h hl hb hw hi.1]; exact hf.words b w hb hw hn⟩
theorem Fram.link {N W R K : Int} (h : mayv N W R K) {r : Nat} {l m : List Int} (hl : m.length = sizev N W R) {b v : Int} (hb : 0 ≤ b ∧ b < N) (hf : Fram N W R r l m) : Fram N W R r l (m.set (linkp W R b) v) :=
  ⟨fun j hj hd => by rw [reg_link h hl hb hj]; exact hf.regs j hj hd, fun c w hc hw hn => by
    have := word_set h hl (x := v) hb hc (five h) hw
    rw [if_neg (fun q => hn q.2.symm)] at this
    exact this.trans (hf.words c w hc hw hn)⟩
/-- A word is set that is no link of a chain's block. -/
theorem link_word {N W R K : Int} (h : mayv N W R K) {l : List Int} (hl : l.length = sizev N W R) {b c v x : Int} (hb : 0 ≤ b ∧ b < N) (hc : 0 ≤ c ∧ c < N) (hv : 0 ≤ v ∧ v < W) : link W R (l.set (wp W R b v) x) c = if b = c ∧ v = 5 then x else link W R l c := word_set h hl hb hc hv (five h)
/-- The blocks hang together by their links. -/
def Linked (W R : Int) (l : List Int) : List Int → Prop
  | [] => True
  | [a] => link W R l a = 0
  | a :: b :: r => link W R l a = b + 1 ∧ Linked W R l (b :: r)
theorem Linked.same {W R : Int} {l l' : List Int} : ∀ {L : List Int}, (∀ x ∈ L, link W R l' x = link W R l x) → Linked W R l L → Linked W R l' L
  | [], _, _ => trivial
  | [a], h, hL => by
    show link W R l' a = 0
    rw [h a (by simp)]; exact hL
  | a :: b :: r, h, hL => ⟨by rw [h a (by simp)]; exact hL.1, Linked.same (L := b :: r) (fun x hx => h x (by simp at hx ⊢; right; exact hx)) hL.2⟩
theorem Linked.tail {W R : Int} {l : List Int} {a : Int} : ∀ {L : List Int}, Linked W R l (a :: L) → Linked W R l L
  | [], _ => trivial
  | _ :: _, h => h.2
def headv : List Int → Int
  | [] => 0
  | a :: _ => a + 1
def lastv : List Int → Int
  | [] => 0
  | [a] => a + 1
  | _ :: b :: r => lastv (b :: r)
theorem lastv_snoc (b : Int) : ∀ L : List Int, lastv (L ++ [b]) = b + 1
  | [] => rfl
  | [_] => rfl
  | _ :: c :: r => lastv_snoc b (c :: r)
/-- One more behind: the last one's link, and the new one's. -/
theorem Linked.snoc {W R : Int} {l l' : List Int} {b : Int} : ∀ {L : List Int}, L.Nodup → (∀ x ∈ L, x + 1 ≠ lastv L → link W R l' x = link W R l x) → (∀ x ∈ L, x + 1 = lastv L → link W R l' x = b + 1) → link W R l' b = 0 → Linked W R l L → Linked W R l' (L ++ [b])
  | [], _, _, _, hb, _ => hb
  | [a], _, _, h2, hb, _ => ⟨h2 a (by simp) rfl, hb⟩
  | a :: c :: r, hn, h1, h2, hb, hL => by
    have hne : a + 1 ≠ lastv (a :: c :: r) := by
      intro e
      have hm : ∀ (M : List Int) (d : Int), ∃ y ∈ (d :: M), y + 1 = lastv (d :: M) := by
        intro M
        induction M with
        | nil => intro d; exact ⟨d, by simp, rfl⟩
        | cons f M ih => intro d; obtain ⟨y, hy, he⟩ := ih f; exact ⟨y, by simp at hy ⊢; right; exact hy, he⟩
      obtain ⟨y, hy, he⟩ := hm r c
      have : y = a := by
        have e' : a + 1 = lastv (c :: r) := e
        omega
      subst this
      exact (List.nodup_cons.1 hn).1 hy
    refine ⟨by rw [h1 a (by simp) hne]; exact hL.1, ?_⟩
    exact Linked.snoc (L := c :: r) (List.nodup_cons.1 hn).2 (fun x hx hq => h1 x (by simp at hx ⊢; right; exact hx) hq) (fun x hx hq => h2 x (by simp at hx ⊢; right; exact hx) hq) hb hL.2
/-- A chain's blocks L stand so: its three registers (from r on) and the links. -/
structure Chain (N W R : Int) (l : List Int) (r : Nat) (L : List Int) : Prop where
  mem : ∀ x ∈ L, 0 ≤ x ∧ x < N
  nd : L.Nodup
  first : rd l (r : Int) = headv L
  last : rd l ((r + 1 : Nat) : Int) = lastv L
  count : rd l ((r + 2 : Nat) : Int) = (L.length : Int)
  links : Linked W R l L
theorem Chain.word {N W R K : Int} (h : mayv N W R K) {l : List Int} (hl : l.length = sizev N W R) {r : Nat} {L : List Int} (hr : r + 2 < 24) {b w : Int} (hb : 0 ≤ b ∧ b < N) (hw : 0 ≤ w ∧ w < W) (hn : w ≠ 5 ∨ b ∉ L) (v : Int) (hc : Chain N W R l r L) : Chain N W R (l.set (wp W R b w) v) r L :=
  ⟨hc.mem, hc.nd, by rw [reg_word h hl hb hw (by omega)]; exact hc.first, by rw [reg_word h hl hb hw (by omega)]; exact hc.last, by rw [reg_word h hl hb hw (by omega)]; exact hc.count,
   hc.links.same fun x hx => by rw [link_word h hl hb (hc.mem x hx) hw, if_neg (fun e => by rcases hn with hn | hn; exact hn e.2; exact hn (by rw [e.1]; exact hx))]⟩
def chainAt (k : Int) (r : Nat) : Prop := k = 0 ∧ r = 0 ∨ k = 1 ∧ r = 3
theorem of_at (l : List Int) (m N W R K : Int) {k : Int} {r : Nat} (h : chainAt k r) : chain_of.f l m N W R K k = some ((r : Int), ((r + 1 : Nat) : Int), ((r + 2 : Nat) : Int), true) := by
  unfold chain_of.f
  rcases h with ⟨rfl, rfl⟩ | ⟨rfl, rfl⟩
  · rw [if_neg (by decide), if_neg (by decide), wrap64_id (n := 3 * 0) (by decide) (by decide), wrap64_id (n := 3 * 0 + 1) (by decide) (by decide), wrap64_id (n := 3 * 0 + 2) (by decide) (by decide)]; rfl
  · rw [if_neg (by decide), if_neg (by decide), wrap64_id (n := 3 * 1) (by decide) (by decide), wrap64_id (n := 3 * 1 + 1) (by decide) (by decide), wrap64_id (n := 3 * 1 + 2) (by decide) (by decide)]; rfl
theorem regv_nat {i : Nat} (h : i < 24) : regv (i : Int) = some i := by
  unfold regv; rw [if_pos (by omega)]; simp
theorem Reg_at {N W R K : Int} {l : List Int} (h : OK N W R K l) (m : Int) {i : Nat} (hi : i < 24) : ground_Ground_Reg.f l m N W R K (i : Int) = some (rd l (i : Int), IntKind.u64.wrap (m + 1)) := by
  rw [Reg_eq h, regv_nat hi]; rfl
theorem SetReg_at {N W R K : Int} {l : List Int} (h : OK N W R K l) (m : Int) {i : Nat} (hi : i < 24) (v : Int) (hv : 0 ≤ v ∧ v < 4294967296) : ground_Ground_SetReg.f l m N W R K (i : Int) v = some (true, IntKind.u64.wrap (m + 1), l.set i v) := by
  rw [SetReg_eq h, if_pos hv, regv_nat hi]; rfl
theorem SetLink_at {N W R K : Int} {l : List Int} (h : OK N W R K l) (m : Int) {b : Int} (hb : 0 ≤ b ∧ b < N) (v : Int) : ground_Ground_SetWord.f l m N W R K b 5 v = some (true, IntKind.u64.wrap (m + 1), l.set (linkp W R b) v) := by
  rw [SetWord_eq h, linkp_eq h.may hb]; rfl
theorem Link_at {N W R K : Int} {l : List Int} (h : OK N W R K l) (m : Int) {b : Int} (hb : 0 ≤ b ∧ b < N) : ground_Ground_Word.f l m N W R K b 5 = some (link W R l b, IntKind.u64.wrap (m + 1)) := by
  rw [Word_eq h, linkp_eq h.may hb]; rfl
theorem lastv_mem : ∀ {L : List Int}, L ≠ [] → ∃ y ∈ L, lastv L = y + 1
  | [], h => absurd rfl h
  | [a], _ => ⟨a, by simp, rfl⟩
  | _ :: c :: r, _ => by
    obtain ⟨y, hy, he⟩ := lastv_mem (L := c :: r) (by simp)
    exact ⟨y, by simp at hy ⊢; right; exact hy, he⟩
/-- A chain that is not touched: other registers are set, other blocks' links. -/
theorem Chain.reg {N W R K : Int} (h : mayv N W R K) {l : List Int} (hl : l.length = sizev N W R) {r i : Nat} {L : List Int} (hi : i < 24) (hr : r + 2 < 24) (hd : i < r ∨ r + 2 < i) (v : Int) (hc : Chain N W R l r L) : Chain N W R (l.set i v) r L :=
  ⟨hc.mem, hc.nd, by rw [reg_reg h hl hi, if_neg (by omega)]; exact hc.first, by rw [reg_reg h hl hi, if_neg (by omega)]; exact hc.last, by rw [reg_reg h hl hi, if_neg (by omega)]; exact hc.count,
   hc.links.same fun x hx => link_reg h hl (hc.mem x hx) hi⟩
theorem Chain.link {N W R K : Int} (h : mayv N W R K) {l : List Int} (hl : l.length = sizev N W R) {r : Nat} {L : List Int} (hr : r + 2 < 24) {b : Int} (hb : 0 ≤ b ∧ b < N) (hn : b ∉ L) (v : Int) (hc : Chain N W R l r L) : Chain N W R (l.set (linkp W R b) v) r L :=
  ⟨hc.mem, hc.nd, by rw [reg_link h hl hb (by omega)]; exact hc.first, by rw [reg_link h hl hb (by omega)]; exact hc.last, by rw [reg_link h hl hb (by omega)]; exact hc.count,
   hc.links.same fun x hx => by rw [link_set h hl hb (hc.mem x hx), if_neg (fun e => hn (by rw [e]; exact hx))]⟩
/-- What is added stands behind; the other chain stays as it is. -/
theorem add_chain {N W R K : Int} {l : List Int} (h : OK N W R K l) (m : Int) {k : Int} {r q : Nat} {L M : List Int} (hk : chainAt k r) (hq : q + 2 < 24 ∧ (q + 2 < r ∨ r + 2 < q)) (hL : Chain N W R l r L) (hM : Chain N W R l q M)
    {b : Int} (hb : 0 ≤ b ∧ b < N) (hbL : b ∉ L) (hbM : b ∉ M) (hML : ∀ x ∈ L, x ∉ M) (hlen : L.length < 1000000) :
    ∃ m' l', chain_Add.f l m N W R K k b = some (true, m', l') ∧ OK N W R K l' ∧ Chain N W R l' r (L ++ [b]) ∧ Chain N W R l' q M ∧ Acc 16 m m' ∧ Fram N W R r l l' := by
  have hN := h.may.2.1
  have hr : r + 2 < 24 := by rcases hk with ⟨_, rfl⟩ | ⟨_, rfl⟩ <;> decide
  have hwb : wrap64 (b + 1) = b + 1 := wrap64_id (by omega) (by omega)
  have h1 := h.set (linkp W R b) 0 (by decide) (by decide)
  unfold chain_Add.f chain_put_F89.f
  rw [of_at _ _ _ _ _ _ hk]
  simp only [Option.bind_some, if_true, ground_Ground_Conf.f]
  rw [if_neg (by omega), if_neg (by omega), Reg_at h m (by omega), hL.count]
  simp only [Option.bind_some]
  have hcnt : wrap64 ((L.length : Int) + 1) = ((L.length + 1 : Nat) : Int) := by rw [wrap64_id (by omega) (by omega)]; omega
  unfold chain_Add_1.f
  rw [SetLink_at h _ hb]
  simp only [Option.bind_some]
  by_cases hz : (L.length : Int) = 0
  · have hnil : L = [] := List.eq_nil_of_length_eq_zero (by omega)
    subst hnil
    rw [if_pos hz, hwb, SetReg_at h1 _ (i := r) (by omega) (b + 1) (by omega)]
    simp only [Option.bind_some]
    have h2 := h1.set r (b + 1) (by omega) (by omega)
    rw [SetReg_at h2 _ (i := r + 1) (by omega) (b + 1) (by omega)]
    simp only [Option.bind_some]
    have h3 := h2.set (r + 1) (b + 1) (by omega) (by omega)
    rw [hcnt, SetReg_at h3 _ (i := r + 2) (by omega) _ (by omega)]
    refine ⟨_, _, rfl, h3.set _ _ (by omega) (by omega), ⟨by simpa using hb, by simp, ?_, ?_, ?_, ?_⟩, ?_, by repeat (first | with_reducible refine Acc.step ?_ | exact Acc.refl _ _), by repeat (first | exact Fram.refl _ | with_reducible refine Fram.link h.may (by first | exact h.len | (simp only [List.length_set]; exact h.len)) (by first | exact hb | exact hL.mem _ (by assumption)) ?_ | refine Fram.reg h.may (by first | exact h.len | (simp only [List.length_set]; exact h.len)) (by omega) ?_)⟩
    · rw [reg_reg h.may h3.len (by omega), if_neg (by omega), reg_reg h.may h2.len (by omega), if_neg (by omega), reg_reg h.may h1.len (by omega), if_pos rfl]; rfl
    · rw [reg_reg h.may h3.len (by omega), if_neg (by omega), reg_reg h.may h2.len (by omega), if_pos rfl]; rfl
    · rw [reg_reg h.may h3.len (by omega), if_pos rfl]; rfl
    · show link W R _ b = 0
      rw [link_reg h.may h3.len hb (by omega), link_reg h.may h2.len hb (by omega), link_reg h.may h1.len hb (by omega), link_set h.may h.len hb hb, if_pos rfl]
    · exact (((hM.link h.may h.len hq.1 hb hbM 0).reg h.may h1.len (by omega) hq.1 (by omega) _).reg h.may h2.len (by omega) hq.1 (by omega) _).reg h.may h3.len (by omega) hq.1 (by omega) _
  · have hne : L ≠ [] := fun e => hz (by rw [e]; rfl)
    obtain ⟨e, he, hle⟩ := lastv_mem hne
    have heN := hL.mem e he
    have hwe : wrap64 (e + 1 - 1) = e := by rw [wrap64_id (by omega) (by omega)]; omega
    rw [if_neg hz, Reg_at h1 _ (i := r + 1) (by omega), reg_link h.may h.len hb (by omega), hL.last, hle]
    simp only [Option.bind_some]
    rw [hwe, hwb, show (b + 1) % 4294967296 = b + 1 by omega, SetLink_at h1 _ heN]
    simp only [Option.bind_some]
    have h2 := h1.set (linkp W R e) (b + 1) (by omega) (by omega)
    rw [SetReg_at h2 _ (i := r + 1) (by omega) (b + 1) (by omega)]
    simp only [Option.bind_some]
    have h3 := h2.set (r + 1) (b + 1) (by omega) (by omega)
    rw [hcnt, SetReg_at h3 _ (i := r + 2) (by omega) _ (by omega)]
    have hbe : b ≠ e := fun q => hbL (by rw [q]; exact he)
    refine ⟨_, _, rfl, h3.set _ _ (by omega) (by omega), ⟨?_, ?_, ?_, ?_, ?_, ?_⟩, ?_, by repeat (first | with_reducible refine Acc.step ?_ | exact Acc.refl _ _), by repeat (first | exact Fram.refl _ | with_reducible refine Fram.link h.may (by first | exact h.len | (simp only [List.length_set]; exact h.len)) (by first | exact hb | exact hL.mem _ (by assumption)) ?_ | refine Fram.reg h.may (by first | exact h.len | (simp only [List.length_set]; exact h.len)) (by omega) ?_)⟩
    · intro x hx
      rcases List.mem_append.1 hx with hx | hx
      · exact hL.mem x hx
      · simp at hx; subst hx; exact hb
    · exact List.nodup_append.2 ⟨hL.nd, by simp, fun x hx y hy => by simp at hy; subst hy; exact fun q => hbL (by rw [← q]; exact hx)⟩
    · rw [reg_reg h.may h3.len (by omega), if_neg (by omega), reg_reg h.may h2.len (by omega), if_neg (by omega), reg_link h.may h1.len heN (by omega), reg_link h.may h.len hb (by omega), hL.first]
      cases L with
      | nil => exact absurd rfl hne
      | cons a t => rfl
    · rw [reg_reg h.may h3.len (by omega), if_neg (by omega), reg_reg h.may h2.len (by omega), if_pos rfl, lastv_snoc]
    · rw [reg_reg h.may h3.len (by omega), if_pos rfl]; simp
    · have lk : ∀ x, 0 ≤ x ∧ x < N → link W R ((((l.set (linkp W R b) 0).set (linkp W R e) (b + 1)).set (r + 1) (b + 1)).set (r + 2) ((L.length + 1 : Nat) : Int)) x = if e = x then b + 1 else if b = x then 0 else link W R l x := by
        intro x hx
        rw [link_reg h.may h3.len hx (by omega), link_reg h.may h2.len hx (by omega), link_set h.may h1.len heN hx, link_set h.may h.len hb hx]
      refine Linked.snoc (l := l) hL.nd (fun x hx hq => ?_) (fun x hx hq => ?_) ?_ hL.links
      · rw [lk x (hL.mem x hx), if_neg (by omega), if_neg (fun q => hbL (by rw [q]; exact hx))]
      · rw [lk x (hL.mem x hx), if_pos (by omega)]
      · rw [lk b hb, if_neg (fun q => hbe q.symm), if_pos rfl]
    · exact ((((hM.link h.may h.len hq.1 hb hbM 0).link h.may h1.len hq.1 heN (hML e he) _).reg h.may h2.len (by omega) hq.1 (by omega) _).reg h.may h3.len (by omega) hq.1 (by omega) _)
theorem Linked.head {W R : Int} {l : List Int} {a : Int} : ∀ {t : List Int}, Linked W R l (a :: t) → link W R l a = headv t
  | [], h => h
  | _ :: _, h => h.1
theorem headv_range {N : Int} : ∀ {t : List Int}, (∀ x ∈ t, 0 ≤ x ∧ x < N) → N ≤ 1048576 → 0 ≤ headv t ∧ headv t < 4294967296
  | [], _, _ => by decide
  | a :: t, h, hN => by have := h a (by simp); show 0 ≤ a + 1 ∧ a + 1 < 4294967296; omega
theorem headv_zero {N : Int} : ∀ {t : List Int}, (∀ x ∈ t, 0 ≤ x ∧ x < N) → headv t = 0 → t = []
  | [], _, _ => rfl
  | a :: t, h, e => by have := h a (by simp); have e' : a + 1 = 0 := e; omega
/-- What is pushed stands ahead. -/
theorem push_chain {N W R K : Int} {l : List Int} (h : OK N W R K l) (m : Int) {k : Int} {r q : Nat} {L M : List Int} (hk : chainAt k r) (hq : q + 2 < 24 ∧ (q + 2 < r ∨ r + 2 < q)) (hL : Chain N W R l r L) (hM : Chain N W R l q M)
    {b : Int} (hb : 0 ≤ b ∧ b < N) (hbL : b ∉ L) (hbM : b ∉ M) (hlen : L.length < 1000000) :
    ∃ m' l', chain_Push.f l m N W R K k b = some (true, m', l') ∧ OK N W R K l' ∧ Chain N W R l' r (b :: L) ∧ Chain N W R l' q M ∧ Acc 16 m m' ∧ Fram N W R r l l' := by
  have hN := h.may.2.1
  have hr : r + 2 < 24 := by rcases hk with ⟨_, rfl⟩ | ⟨_, rfl⟩ <;> decide
  have hwb : wrap64 (b + 1) = b + 1 := wrap64_id (by omega) (by omega)
  have hh := headv_range hL.mem hN
  have hcnt : wrap64 ((L.length : Int) + 1) = ((L.length + 1 : Nat) : Int) := by rw [wrap64_id (by omega) (by omega)]; omega
  unfold chain_Push.f chain_put_F90.f
  rw [of_at _ _ _ _ _ _ hk]
  simp only [Option.bind_some, if_true, ground_Ground_Conf.f]
  rw [if_neg (by omega), if_neg (by omega), Reg_at h m (by omega), hL.count]
  simp only [Option.bind_some]
  unfold chain_Push_1.f
  rw [Reg_at h _ (i := r) (by omega), hL.first]
  simp only [Option.bind_some]
  rw [show headv L % 4294967296 = headv L by omega, SetLink_at h _ hb]
  simp only [Option.bind_some]
  have h1 := h.set (linkp W R b) (headv L) hh.1 hh.2
  rw [hwb, SetReg_at h1 _ (i := r) (by omega) (b + 1) (by omega)]
  simp only [Option.bind_some]
  have h2 := h1.set r (b + 1) (by omega) (by omega)
  have lks : ∀ {l' : List Int}, (∀ x, 0 ≤ x ∧ x < N → link W R l' x = if b = x then headv L else link W R l x) → Linked W R l' (b :: L) := by
    intro l' lk
    have hb' : link W R l' b = headv L := by rw [lk b hb, if_pos rfl]
    have hs : Linked W R l' L := hL.links.same fun x hx => by rw [lk x (hL.mem x hx), if_neg (fun e => hbL (by rw [e]; exact hx))]
    cases L with
    | nil => exact hb'
    | cons c t => exact ⟨hb', hs⟩
  have hmem : ∀ x ∈ b :: L, 0 ≤ x ∧ x < N := fun x hx => by
    rcases List.mem_cons.1 hx with hx | hx
    · rw [hx]; exact hb
    · exact hL.mem x hx
  have hnd : (b :: L).Nodup := List.nodup_cons.2 ⟨hbL, hL.nd⟩
  by_cases hz : (L.length : Int) = 0
  · rw [if_pos hz, SetReg_at h2 _ (i := r + 1) (by omega) (b + 1) (by omega)]
    simp only [Option.bind_some]
    have h3 := h2.set (r + 1) (b + 1) (by omega) (by omega)
    rw [hcnt, SetReg_at h3 _ (i := r + 2) (by omega) _ (by omega)]
    have hnil : L = [] := List.eq_nil_of_length_eq_zero (by omega)
    refine ⟨_, _, rfl, h3.set _ _ (by omega) (by omega), ⟨hmem, hnd, ?_, ?_, ?_, lks fun x hx => ?_⟩, ?_, by repeat (first | with_reducible refine Acc.step ?_ | exact Acc.refl _ _), by repeat (first | exact Fram.refl _ | with_reducible refine Fram.link h.may (by first | exact h.len | (simp only [List.length_set]; exact h.len)) (by first | exact hb) ?_ | refine Fram.reg h.may (by first | exact h.len | (simp only [List.length_set]; exact h.len)) (by omega) ?_)⟩
    · rw [reg_reg h.may h3.len (by omega), if_neg (by omega), reg_reg h.may h2.len (by omega), if_neg (by omega), reg_reg h.may h1.len (by omega), if_pos rfl]; rfl
    · rw [reg_reg h.may h3.len (by omega), if_neg (by omega), reg_reg h.may h2.len (by omega), if_pos rfl, hnil]; rfl
    · rw [reg_reg h.may h3.len (by omega), if_pos rfl]; simp
    · rw [link_reg h.may h3.len hx (by omega), link_reg h.may h2.len hx (by omega), link_reg h.may h1.len hx (by omega), link_set h.may h.len hb hx]
    · exact (((hM.link h.may h.len hq.1 hb hbM _).reg h.may h1.len (by omega) hq.1 (by omega) _).reg h.may h2.len (by omega) hq.1 (by omega) _).reg h.may h3.len (by omega) hq.1 (by omega) _
  · have hne : L ≠ [] := fun e => hz (by rw [e]; rfl)
    rw [if_neg hz]
    simp only [Option.bind_some]
    rw [hcnt, SetReg_at h2 _ (i := r + 2) (by omega) _ (by omega)]
    refine ⟨_, _, rfl, h2.set _ _ (by omega) (by omega), ⟨hmem, hnd, ?_, ?_, ?_, lks fun x hx => ?_⟩, ?_, by repeat (first | with_reducible refine Acc.step ?_ | exact Acc.refl _ _), by repeat (first | exact Fram.refl _ | with_reducible refine Fram.link h.may (by first | exact h.len | (simp only [List.length_set]; exact h.len)) (by first | exact hb) ?_ | refine Fram.reg h.may (by first | exact h.len | (simp only [List.length_set]; exact h.len)) (by omega) ?_)⟩
    · rw [reg_reg h.may h2.len (by omega), if_neg (by omega), reg_reg h.may h1.len (by omega), if_pos rfl]; rfl
    · rw [reg_reg h.may h2.len (by omega), if_neg (by omega), reg_reg h.may h1.len (by omega), if_neg (by omega), reg_link h.may h.len hb (by omega), hL.last]
      cases L with
      | nil => exact absurd rfl hne
      | cons c t => rfl
    · rw [reg_reg h.may h2.len (by omega), if_pos rfl]; simp
    · rw [link_reg h.may h2.len hx (by omega), link_reg h.may h1.len hx (by omega), link_set h.may h.len hb hx]
    · exact (((hM.link h.may h.len hq.1 hb hbM _).reg h.may h1.len (by omega) hq.1 (by omega) _).reg h.may h2.len (by omega) hq.1 (by omega) _)
/-- The first one is taken. -/
theorem take_chain {N W R K : Int} {l : List Int} (h : OK N W R K l) (m : Int) {k : Int} {r q : Nat} {a : Int} {L M : List Int} (hk : chainAt k r) (hq : q + 2 < 24 ∧ (q + 2 < r ∨ r + 2 < q)) (hL : Chain N W R l r (a :: L)) (hM : Chain N W R l q M)
    (haM : a ∉ M) (hlen : L.length < 1000000) :
    ∃ m' l', chain_Take.f l m N W R K k = some (a, true, m', l') ∧ OK N W R K l' ∧ Chain N W R l' r L ∧ Chain N W R l' q M ∧ Acc 16 m m' ∧ Fram N W R r l l' ∧ link W R l' a = 0 := by
  have hN := h.may.2.1
  have hr : r + 2 < 24 := by rcases hk with ⟨_, rfl⟩ | ⟨_, rfl⟩ <;> decide
  have ha := hL.mem a (by simp)
  have hmem : ∀ x ∈ L, 0 ≤ x ∧ x < N := fun x hx => hL.mem x (by simp [hx])
  have hnd := List.nodup_cons.1 hL.nd
  have hh := headv_range hmem hN
  have hwa : wrap64 (a + 1 - 1) = a := by rw [wrap64_id (by omega) (by omega)]; omega
  have hc := hL.count
  have hcnt : wrap64 ((((a :: L).length : Nat) : Int) - 1) = (L.length : Int) := by rw [List.length_cons, wrap64_id (by omega) (by omega)]; omega
  unfold chain_Take.f
  rw [of_at _ _ _ _ _ _ hk]
  simp only [Option.bind_some, if_true]
  rw [Reg_at h m (i := r) (by omega), hL.first]
  simp only [Option.bind_some, headv]
  rw [if_neg (by omega), hwa, Link_at h _ ha, hL.links.head]
  simp only [Option.bind_some]
  rw [SetLink_at h _ ha]
  simp only [Option.bind_some]
  have h1 := h.set (linkp W R a) 0 (by decide) (by decide)
  rw [wrap64_id (n := headv L) (by omega) (by omega), SetReg_at h1 _ (i := r) (by omega) _ hh]
  simp only [Option.bind_some]
  have h2 := h1.set r (headv L) hh.1 hh.2
  have lks : ∀ {l' : List Int}, (∀ x, 0 ≤ x ∧ x < N → link W R l' x = if a = x then 0 else link W R l x) → Linked W R l' L := by
    intro l' lk
    exact hL.links.tail.same fun x hx => by rw [lk x (hmem x hx), if_neg (fun e => hnd.1 (by rw [e]; exact hx))]
  by_cases hz : headv L = 0
  · have hnil := headv_zero hmem hz
    rw [if_pos hz, SetReg_at h2 _ (i := r + 1) (by omega) 0 (by decide)]
    simp only [Option.bind_some]
    have h3 := h2.set (r + 1) 0 (by decide) (by decide)
    rw [Reg_at h3 _ (i := r + 2) (by omega), reg_reg h.may h2.len (by omega), if_neg (by omega), reg_reg h.may h1.len (by omega), if_neg (by omega), reg_link h.may h.len ha (by omega), hc]
    simp only [Option.bind_some]
    rw [hcnt, SetReg_at h3 _ (i := r + 2) (by omega) _ (by omega)]
    refine ⟨_, _, rfl, h3.set _ _ (by omega) (by omega), ⟨hmem, hnd.2, ?_, ?_, ?_, lks fun x hx => ?_⟩, ?_, by repeat (first | with_reducible refine Acc.step ?_ | exact Acc.refl _ _), by repeat (first | exact Fram.refl _ | with_reducible refine Fram.link h.may (by first | exact h.len | (simp only [List.length_set]; exact h.len)) (by first | exact ha) ?_ | refine Fram.reg h.may (by first | exact h.len | (simp only [List.length_set]; exact h.len)) (by omega) ?_), by rw [link_reg h.may h3.len ha (by omega), link_reg h.may h2.len ha (by omega), link_reg h.may h1.len ha (by omega), link_set h.may h.len ha ha, if_pos rfl]⟩
    · rw [reg_reg h.may h3.len (by omega), if_neg (by omega), reg_reg h.may h2.len (by omega), if_neg (by omega), reg_reg h.may h1.len (by omega), if_pos rfl]
    · rw [reg_reg h.may h3.len (by omega), if_neg (by omega), reg_reg h.may h2.len (by omega), if_pos rfl, hnil]; rfl
    · rw [reg_reg h.may h3.len (by omega), if_pos rfl]
    · rw [link_reg h.may h3.len hx (by omega), link_reg h.may h2.len hx (by omega), link_reg h.may h1.len hx (by omega), link_set h.may h.len ha hx]
    · exact (((hM.link h.may h.len hq.1 ha haM _).reg h.may h1.len (by omega) hq.1 (by omega) _).reg h.may h2.len (by omega) hq.1 (by omega) _).reg h.may h3.len (by omega) hq.1 (by omega) _
  · have hne : L ≠ [] := fun e => hz (by rw [e]; rfl)
    rw [if_neg hz, Reg_at h2 _ (i := r + 2) (by omega), reg_reg h.may h1.len (by omega), if_neg (by omega), reg_link h.may h.len ha (by omega), hc]
    simp only [Option.bind_some]
    rw [hcnt, SetReg_at h2 _ (i := r + 2) (by omega) _ (by omega)]
    refine ⟨_, _, rfl, h2.set _ _ (by omega) (by omega), ⟨hmem, hnd.2, ?_, ?_, ?_, lks fun x hx => ?_⟩, ?_, by repeat (first | with_reducible refine Acc.step ?_ | exact Acc.refl _ _), by repeat (first | exact Fram.refl _ | with_reducible refine Fram.link h.may (by first | exact h.len | (simp only [List.length_set]; exact h.len)) (by first | exact ha) ?_ | refine Fram.reg h.may (by first | exact h.len | (simp only [List.length_set]; exact h.len)) (by omega) ?_), by rw [link_reg h.may h2.len ha (by omega), link_reg h.may h1.len ha (by omega), link_set h.may h.len ha ha, if_pos rfl]⟩
    · rw [reg_reg h.may h2.len (by omega), if_neg (by omega), reg_reg h.may h1.len (by omega), if_pos rfl]
    · rw [reg_reg h.may h2.len (by omega), if_neg (by omega), reg_reg h.may h1.len (by omega), if_neg (by omega), reg_link h.may h.len ha (by omega), hL.last]
      cases L with
      | nil => exact absurd rfl hne
      | cons c t => rfl
    · rw [reg_reg h.may h2.len (by omega), if_pos rfl]
    · rw [link_reg h.may h2.len hx (by omega), link_reg h.may h1.len hx (by omega), link_set h.may h.len ha hx]
    · exact ((hM.link h.may h.len hq.1 ha haM _).reg h.may h1.len (by omega) hq.1 (by omega) _).reg h.may h2.len (by omega) hq.1 (by omega) _
theorem take_none {N W R K : Int} {l : List Int} (h : OK N W R K l) (m : Int) {k : Int} {r : Nat} (hk : chainAt k r) (hL : Chain N W R l r []) : ∃ m', chain_Take.f l m N W R K k = some (0, false, m', l) := by
  have hr : r + 2 < 24 := by rcases hk with ⟨_, rfl⟩ | ⟨_, rfl⟩ <;> decide
  refine ⟨IntKind.u64.wrap (m + 1), ?_⟩
  unfold chain_Take.f
  rw [of_at _ _ _ _ _ _ hk]
  simp only [Option.bind_some, if_true]
  rw [Reg_at h m (i := r) (by omega), hL.first]
  simp only [Option.bind_some, headv, if_true]
theorem len_chain {N W R K : Int} {l : List Int} (h : OK N W R K l) (m : Int) {k : Int} {r : Nat} {L : List Int} (hk : chainAt k r) (hL : Chain N W R l r L) : chain_Len.f l m N W R K k = some ((L.length : Int), IntKind.u64.wrap (m + 1)) := by
  have hr : r + 2 < 24 := by rcases hk with ⟨_, rfl⟩ | ⟨_, rfl⟩ <;> decide
  unfold chain_Len.f
  rw [of_at _ _ _ _ _ _ hk]
  simp only [Option.bind_some, if_true]
  rw [Reg_at h m (i := r + 2) (by omega), hL.count]
  rfl
theorem chain_empty {N W R K : Int} (h : mayv N W R K) {r : Nat} : Chain N W R (List.replicate (sizev N W R) 0) r [] := by
  have hz : ∀ i : Int, rd (List.replicate (sizev N W R) (0 : Int)) i = 0 := fun i => by
    simp only [rd, List.getD_eq_getElem?_getD, List.getElem?_replicate]
    split <;> rfl
  exact ⟨by simp, by simp, hz _, hz _, hz _, trivial⟩
def peekv (l : List Int) (p : Option Nat) : Int := match p with
  | some n => rd l (n : Int)
  | none => 0
theorem speek_eq (l : List Int) (m : Int) (p : Option Nat) (hp : ∀ n, p = some n → n < l.length) : store_Store_Peek.f l m (posv p) = some (peekv l p) := by
  rw [peek_eq]
  cases p with
  | none => rw [if_neg (by simp [posv])]; rfl
  | some n => have := hp n rfl; rw [if_pos (by simp [posv]; omega)]; rfl
theorem SeeReg_at {N W R K : Int} {l : List Int} (h : OK N W R K l) (m : Int) {i : Nat} (hi : i < 24) : ground_Ground_SeeReg.f l m N W R K (i : Int) = some (rd l (i : Int)) := by
  unfold ground_Ground_SeeReg.f ground_Ground_all.f
  simp only [Option.bind_some]
  rw [reg_eq, regv_nat hi]
  simp only [Option.bind_some]
  rw [speek_eq l m _ (fun n hn => by rw [h.len]; cases hn; have := size24 h.may; omega)]
  simp only [Option.bind_some, peekv]
  have := h.u32 i
  rw [wrap64_id (by omega) (by omega)]
theorem SeeLink_at {N W R K : Int} {l : List Int} (h : OK N W R K l) (m : Int) {b : Int} (hb : 0 ≤ b ∧ b < N) : ground_Ground_SeeWord.f l m N W R K b 5 = some (link W R l b) := by
  unfold ground_Ground_SeeWord.f ground_Ground_all.f
  simp only [Option.bind_some]
  rw [word_eq l m N W R K b 5 h.may, linkp_eq h.may hb]
  simp only [Option.bind_some]
  rw [speek_eq l m _ (fun n hn => by rw [h.len]; cases hn; exact (linkp_lt h.may hb).1)]
  rfl
theorem list_lo {N W R K : Int} {l : List Int} (h : OK N W R K l) (m : Int) : ∀ (t out : List Int) (k : Nat), (∀ x ∈ t, 0 ≤ x ∧ x < N) → Linked W R l t → ((out.length + t.length : Nat) : Int) ≤ N → t.length < k → chain_List.lo0 k l m N W R K (headv t) out = some (out ++ t)
  | [], out, k, _, _, _, hk => by
    obtain ⟨k, rfl⟩ : ∃ q, k = q + 1 := ⟨k - 1, by simp at hk; omega⟩
    rw [chain_List.lo0, if_neg (show ¬ headv [] > 0 by decide), List.append_nil]
  | a :: t, out, k, hm, hl, hN, hk => by
    obtain ⟨k, rfl⟩ : ∃ q, k = q + 1 := ⟨k - 1, by simp at hk; omega⟩
    have ha := hm a (by simp)
    have hN1 := h.may.2.1
    have hmt : ∀ x ∈ t, 0 ≤ x ∧ x < N := fun x hx => hm x (by simp [hx])
    have hh := headv_range hmt hN1
    simp only [List.length_cons] at hN hk
    rw [show headv (a :: t) = a + 1 from rfl, chain_List.lo0, if_pos (by omega)]
    simp only [ground_Ground_Conf.f, Option.bind_some]
    rw [if_pos (by omega), if_pos (by omega), show wrap64 (a + 1 - 1) = a by rw [wrap64_id (by omega) (by omega)]; omega, SeeLink_at h _ ha, hl.head]
    simp only [Option.bind_some]
    rw [wrap64_id (n := headv t) (by omega) (by omega), list_lo h m t (out ++ [a]) k hmt hl.tail (by simp; omega) (by omega)]
    simp
theorem list_chain {N W R K : Int} {l : List Int} (h : OK N W R K l) (m : Int) {k : Int} {r : Nat} {L : List Int} (hk : chainAt k r) (hL : Chain N W R l r L) (q : Nat) (hq : L.length < q) (hN : (L.length : Int) ≤ N) : chain_List.f q l m N W R K k = some L := by
  have hr : r + 2 < 24 := by rcases hk with ⟨_, rfl⟩ | ⟨_, rfl⟩ <;> decide
  unfold chain_List.f
  rw [of_at _ _ _ _ _ _ hk]
  simp only [Option.bind_some, if_true]
  rw [SeeReg_at h m (i := r) (by omega), hL.first]
  simp only [Option.bind_some]
  rw [list_lo h m L [] q hL.mem hL.links (by simpa using hN) hq]
  rfl
/-- The numbers from p to below b. -/
def iv (p b : Nat) : List Int := (List.range' p (b - p)).map (fun i : Nat => (i : Int))
theorem iv_mem {p b : Nat} {x : Int} (h : x ∈ iv p b) : (p : Int) ≤ x ∧ x < (b : Int) := by
  unfold iv at h
  obtain ⟨i, hi, rfl⟩ := List.mem_map.1 h
  have := List.mem_range'_1.1 hi
  omega
theorem iv_len (p b : Nat) : (iv p b).length = b - p := by simp [iv]
theorem iv_self (p : Nat) : iv p p = [] := by simp [iv]
theorem iv_snoc {p b : Nat} (h : p ≤ b) : iv p (b + 1) = iv p b ++ [(b : Int)] := by
  unfold iv
  rw [show b + 1 - p = (b - p) + 1 by omega, List.range'_concat, List.map_append]
  simp; omega
theorem iv_cons {b n : Nat} (h : b < n) : iv b n = (b : Int) :: iv (b + 1) n := by
  unfold iv
  rw [show n - b = (n - (b + 1)) + 1 by omega, List.range'_succ]
  rfl
theorem bind_is {α β : Type} {x : Option α} {a : α} (h : x = some a) (f : α → Option β) : x.bind f = f a := by rw [h]; rfl
theorem hasL_lo (L : List Int) (b : Int) (hL : L.length < 1000000) : ∀ (d k j : Nat), j + d = L.length → d < k → quitrentref08_Has.lo0 k L b (j : Int) = some (if b ∈ L.drop j then .ret true else .out ()) := by
  intro d
  induction d with
  | zero =>
    intro k j hj hk
    obtain ⟨k, rfl⟩ : ∃ q, k = q + 1 := ⟨k - 1, by omega⟩
    rw [quitrentref08_Has.lo0, if_neg (by omega), List.drop_of_length_le (by omega), if_neg (by simp)]
  | succ d ih =>
    intro k j hj hk
    obtain ⟨k, rfl⟩ : ∃ q, k = q + 1 := ⟨k - 1, by omega⟩
    have hl : j < L.length := by omega
    rw [quitrentref08_Has.lo0, if_pos (by omega), if_pos (by omega), rd_nat L j hl, List.drop_eq_getElem_cons hl]
    by_cases e : L[j] = b
    · rw [if_pos e, if_pos (by simp [e])]
    · rw [if_neg e, next_i j (by omega), ih k (j + 1) (by omega) (by omega)]
      by_cases f : b ∈ L.drop (j + 1)
      · rw [if_pos f, if_pos (List.mem_cons_of_mem _ f)]
      · rw [if_neg f, if_neg (by
          intro q
          rcases List.mem_cons.1 q with q | q
          · exact e q.symm
          · exact f q)]
theorem hasL_eq (L : List Int) (b : Int) (hL : L.length < 1000000) (k : Nat) (hk : L.length < k) : quitrentref08_Has.f k L b = some (decide (b ∈ L)) := by
  unfold quitrentref08_Has.f
  have := hasL_lo L b hL L.length k 0 (by omega) hk
  rw [List.drop_zero] at this
  refine Eq.trans (bind_is this _) ?_
  by_cases h : b ∈ L
  · rw [if_pos h, decide_eq_true h]; rfl
  · rw [if_neg h, decide_eq_false h]; rfl
theorem stands_in (LA LB : List Int) (b : Int) (hA : LA.length < 1000000) (hB : LB.length < 1000000) (k : Nat) (hk : LA.length < k ∧ LB.length < k) : quitrentref08_Chains_Stands.f k LA LB b = some (decide (b ∈ LA ∨ b ∈ LB)) := by
  unfold quitrentref08_Chains_Stands.f
  refine Eq.trans (bind_is (hasL_eq LA b hA k hk.1) _) ?_
  by_cases h : b ∈ LA
  · rw [decide_eq_true h, if_pos rfl, decide_eq_true (Or.inl h)]
  · rw [decide_eq_false h, if_neg (by decide)]
    refine Eq.trans (bind_is (hasL_eq LB b hB k hk.2) _) ?_
    congr 1
    exact decide_eq_decide.2 (by simp [h])

theorem Front_lo (L : List Int) (hL : L.length < 1000000) : ∀ (d k j : Nat) (out : List Int), j + d = L.length → d < k → out.length + d < 1000000 → quitrentref08_Front.lo0 k L (j : Int) out = some (out ++ L.drop j) := by
  intro d
  induction d with
  | zero =>
    intro k j out hj hk ho
    obtain ⟨k, rfl⟩ : ∃ q, k = q + 1 := ⟨k - 1, by omega⟩
    rw [quitrentref08_Front.lo0, if_neg (by omega), List.drop_of_length_le (by omega), List.append_nil]
  | succ d ih =>
    intro k j out hj hk ho
    obtain ⟨k, rfl⟩ : ∃ q, k = q + 1 := ⟨k - 1, by omega⟩
    have hl : j < L.length := by omega
    rw [quitrentref08_Front.lo0, if_pos (by omega), if_pos (by omega), if_pos (by omega)]
    refine Eq.trans (Option.bind_some _ _) ?_
    rw [next_i j (by omega), ih k (j + 1) _ (by omega) (by omega) (by simp; omega), rd_nat L j hl, List.drop_eq_getElem_cons hl, List.append_assoc]
    rfl

theorem Behind_lo (L : List Int) (hL : L.length < 1000000) : ∀ (d k j : Nat) (out : List Int), j + d = L.length → d < k → out.length + d < 1000000 → quitrentref08_Behind.lo0 k L (j : Int) out = some (out ++ L.drop j) := by
  intro d
  induction d with
  | zero =>
    intro k j out hj hk ho
    obtain ⟨k, rfl⟩ : ∃ q, k = q + 1 := ⟨k - 1, by omega⟩
    rw [quitrentref08_Behind.lo0, if_neg (by omega), List.drop_of_length_le (by omega), List.append_nil]
  | succ d ih =>
    intro k j out hj hk ho
    obtain ⟨k, rfl⟩ : ∃ q, k = q + 1 := ⟨k - 1, by omega⟩
    have hl : j < L.length := by omega
    rw [quitrentref08_Behind.lo0, if_pos (by omega), if_pos (by omega), if_pos (by omega)]
    refine Eq.trans (Option.bind_some _ _) ?_
    rw [next_i j (by omega), ih k (j + 1) _ (by omega) (by omega) (by simp; omega), rd_nat L j hl, List.drop_eq_getElem_cons hl, List.append_assoc]
    rfl

theorem Rest_lo (L : List Int) (hL : L.length < 1000000) : ∀ (d k j : Nat) (out : List Int), j + d = L.length → d < k → out.length + d < 1000000 → quitrentref08_Rest.lo0 k L (j : Int) out = some (out ++ L.drop j) := by
  intro d
  induction d with
  | zero =>
    intro k j out hj hk ho
    obtain ⟨k, rfl⟩ : ∃ q, k = q + 1 := ⟨k - 1, by omega⟩
    rw [quitrentref08_Rest.lo0, if_neg (by omega), List.drop_of_length_le (by omega), List.append_nil]
  | succ d ih =>
    intro k j out hj hk ho
    obtain ⟨k, rfl⟩ : ∃ q, k = q + 1 := ⟨k - 1, by omega⟩
    have hl : j < L.length := by omega
    rw [quitrentref08_Rest.lo0, if_pos (by omega), if_pos (by omega), if_pos (by omega)]
    refine Eq.trans (Option.bind_some _ _) ?_
    rw [next_i j (by omega), ih k (j + 1) _ (by omega) (by omega) (by simp; omega), rd_nat L j hl, List.drop_eq_getElem_cons hl, List.append_assoc]
    rfl
theorem front_eq (L : List Int) (b : Int) (hL : L.length < 900000) (k : Nat) (hk : L.length < k) : quitrentref08_Front.f k L b = some (b :: L) := by
  unfold quitrentref08_Front.f
  exact bind_is (Front_lo L (by omega) L.length k 0 [b] (by omega) hk (by simp; omega)) _
theorem behind_eq (L : List Int) (b : Int) (hL : L.length < 900000) (k : Nat) (hk : L.length < k) : quitrentref08_Behind.f k L b = some (L ++ [b]) := by
  unfold quitrentref08_Behind.f
  refine Eq.trans (bind_is (Behind_lo L (by omega) L.length k 0 [] (by omega) hk (by simp; omega)) _) ?_
  rw [List.drop_zero, List.nil_append, if_pos (by omega)]
  rfl
theorem rest_eq (a : Int) (L : List Int) (hL : L.length < 900000) (k : Nat) (hk : L.length < k) : quitrentref08_Rest.f k (a :: L) = some L := by
  unfold quitrentref08_Rest.f
  exact bind_is (Rest_lo (a :: L) (by simp; omega) L.length k 1 [] (by simp; omega) hk (by simp; omega)) _
theorem ints_lo (L : List Int) (hL : L.length < 1000000) : ∀ (d k j : Nat), j + d = L.length → d < k → quitrentref01_Ints.lo0 k L L (j : Int) = some (.out ()) := by
  intro d
  induction d with
  | zero =>
    intro k j hj hk
    obtain ⟨k, rfl⟩ : ∃ q, k = q + 1 := ⟨k - 1, by omega⟩
    rw [quitrentref01_Ints.lo0, if_neg (by omega)]
  | succ d ih =>
    intro k j hj hk
    obtain ⟨k, rfl⟩ : ∃ q, k = q + 1 := ⟨k - 1, by omega⟩
    rw [quitrentref01_Ints.lo0, if_pos (by omega), if_pos (by omega), if_pos (by omega), if_pos rfl, next_i j (by omega), ih k (j + 1) (by omega) (by omega)]
theorem ints_eq (L : List Int) (hL : L.length < 1000000) (k : Nat) (hk : L.length < k) : quitrentref01_Ints.f k L L = some true := by
  unfold quitrentref01_Ints.f
  rw [if_pos rfl]
  exact bind_is (ints_lo L hL L.length k 0 (by omega) hk) _
theorem Chain.few {N W R : Int} {l : List Int} {r : Nat} {L : List Int} (h : Chain N W R l r L) (hN : 0 ≤ N) : (L.length : Int) ≤ N := by
  have := h.nd.length_le_of_subset (l₂ := iv 0 N.toNat) (fun x hx => by
    have := h.mem x hx
    unfold iv
    exact List.mem_map.2 ⟨x.toNat, List.mem_range'_1.2 (by omega), by omega⟩)
  rw [iv_len] at this
  omega
theorem lastv_rd : ∀ (L : List Int) (h : 0 < L.length), L[L.length - 1] + 1 = lastv L
  | [a], _ => rfl
  | a :: b :: t, _ => by
    have := lastv_rd (b :: t) (by simp)
    simpa [lastv] using this
theorem linked_at {W R : Int} {l : List Int} : ∀ {L : List Int} (_ : Linked W R l L) (j : Nat) (hj : j < L.length), link W R l L[j] = if h2 : j + 1 < L.length then L[j + 1] + 1 else 0
  | [], _, j, hj => absurd hj (by simp)
  | [a], h, 0, _ => by simpa [Linked] using h
  | [a], h, j + 1, hj => by simp at hj
  | a :: b :: r, h, 0, _ => by simpa using h.1
  | a :: b :: r, h, j + 1, hj => by
    have := linked_at (L := b :: r) h.2 j (by simpa using hj)
    simpa using this
theorem ends_eq {N W R K : Int} {l : List Int} (h : OK N W R K l) {r : Nat} {L : List Int} (hc : Chain N W R l r L) : quitrentref08_Ends.f L = some (headv L, lastv L, (L.length : Int)) := by
  have hN := h.may.2.1
  have hf := hc.few (by have := h.may.1; omega)
  unfold quitrentref08_Ends.f
  cases L with
  | nil => rfl
  | cons a t =>
    have hl : ((a :: t).length : Int) - 1 = (((a :: t).length - 1 : Nat) : Int) := by simp only [List.length_cons]; omega
    have h0 : 0 < (a :: t).length := by simp
    have hlast := lastv_rd (a :: t) h0
    have hm := hc.mem _ (List.getElem_mem (l := a :: t) (show (a :: t).length - 1 < (a :: t).length by omega))
    have ha := hc.mem a (by simp)
    rw [if_neg (by simp; omega), if_pos (by omega), wrap64_id (n := ((a :: t).length : Int) - 1) (by omega) (by omega), if_pos (by omega), if_pos (by omega), hl, rd_nat _ _ (by omega)]
    rw [show rd (a :: t) 0 = a from rfl, wrap64_id (n := a + 1) (by omega) (by omega), wrap64_id (by omega) (by omega), hlast]
    rfl
theorem nextc_at {N W R K : Int} {l : List Int} (h : OK N W R K l) {r : Nat} {L : List Int} (hc : Chain N W R l r L) (j : Nat) (hj : j < L.length) : quitrentref08_Next.f L (j : Int) = some (link W R l L[j]) ∧ 0 ≤ link W R l L[j] ∧ link W R l L[j] < 4294967296 := by
  have hN := h.may.2.1
  have hf := hc.few (by have := h.may.1; omega)
  have hk := linked_at hc.links j hj
  unfold quitrentref08_Next.f
  rw [next_i j (by omega)]
  by_cases h2 : j + 1 < L.length
  · rw [dif_pos h2] at hk
    have hm := hc.mem _ (List.getElem_mem h2)
    rw [if_neg (by omega), if_pos (by omega), if_pos (by omega), rd_nat L (j + 1) h2, wrap64_id (by omega) (by omega), hk]
    exact ⟨rfl, by omega, by omega⟩
  · rw [dif_neg h2] at hk
    rw [if_pos (by omega), hk]
    exact ⟨rfl, by decide, by decide⟩
theorem stands_lo {N W R K : Int} {l : List Int} (h : OK N W R K l) (m : Int) {r : Nat} {L : List Int} (hc : Chain N W R l r L) : ∀ (d k j : Nat), j + d = L.length → d < k → quitrentlaw08_stands.lo0 k l m N W R K L (j : Int) = some (.out ()) := by
  have hN := h.may.2.1
  have hf := hc.few (by have := h.may.1; omega)
  intro d
  induction d with
  | zero =>
    intro k j hj hk
    obtain ⟨k, rfl⟩ : ∃ q, k = q + 1 := ⟨k - 1, by omega⟩
    rw [quitrentlaw08_stands.lo0, if_neg (by omega)]
  | succ d ih =>
    intro k j hj hk
    obtain ⟨k, rfl⟩ : ∃ q, k = q + 1 := ⟨k - 1, by omega⟩
    have hl : j < L.length := by omega
    obtain ⟨e, b0, b1⟩ := nextc_at h hc j hl
    rw [quitrentlaw08_stands.lo0, if_pos (by omega), if_pos (by omega), rd_nat L j hl]
    refine Eq.trans (bind_is (SeeLink_at h m (hc.mem _ (List.getElem_mem hl))) _) ?_
    refine Eq.trans (bind_is e _) ?_
    rw [wrap64_id (by omega) (by omega), if_pos rfl, next_i j (by omega)]
    exact ih k (j + 1) (by omega) (by omega)
theorem stands_eq {N W R K : Int} {l : List Int} (h : OK N W R K l) (m : Int) {c : Int} {r : Nat} {L : List Int} (hk : chainAt c r) (hc : Chain N W R l r L) (k : Nat) (hq : L.length < k) : quitrentlaw08_stands.f k l m N W R K c L = some true := by
  have e0 : wrap64 (3 * c) = (r : Int) := by rcases hk with ⟨rfl, rfl⟩ | ⟨rfl, rfl⟩ <;> (unfold wrap64; decide)
  have e1 : wrap64 ((r : Int) + 1) = ((r + 1 : Nat) : Int) := by rcases hk with ⟨_, rfl⟩ | ⟨_, rfl⟩ <;> (unfold wrap64; decide)
  have e2 : wrap64 ((r : Int) + 2) = ((r + 2 : Nat) : Int) := by rcases hk with ⟨_, rfl⟩ | ⟨_, rfl⟩ <;> (unfold wrap64; decide)
  have hr : r + 2 < 24 := by rcases hk with ⟨_, rfl⟩ | ⟨_, rfl⟩ <;> decide
  unfold quitrentlaw08_stands.f
  refine Eq.trans (bind_is (ends_eq h hc) _) ?_
  rw [e0, e1, e2]
  refine Eq.trans (bind_is (SeeReg_at h m (i := r) (by omega)) _) ?_
  rw [if_pos hc.first]
  refine Eq.trans (bind_is (SeeReg_at h m (i := r + 1) (by omega)) _) ?_
  rw [if_pos hc.last]
  refine Eq.trans (bind_is (SeeReg_at h m (i := r + 2) (by omega)) _) ?_
  rw [if_pos hc.count]
  exact bind_is (stands_lo h m hc L.length k 0 (by omega) hq) _
theorem of_out (l : List Int) (m N W R K : Int) {c : Int} (h : c ≠ 0 ∧ c ≠ 1) : chain_of.f l m N W R K c = some (0, 0, 0, false) := by
  unfold chain_of.f
  by_cases h0 : c < 0
  · rw [if_pos h0]
  · rw [if_neg h0, if_pos (by omega)]
theorem of_any (l : List Int) (m N W R K c : Int) : ∃ x y z w, chain_of.f l m N W R K c = some (x, y, z, w) := by
  by_cases h0 : c = 0
  · exact ⟨_, _, _, _, of_at l m N W R K (r := 0) (Or.inl ⟨h0, rfl⟩)⟩
  by_cases h1 : c = 1
  · exact ⟨_, _, _, _, of_at l m N W R K (r := 3) (Or.inr ⟨h1, rfl⟩)⟩
  exact ⟨_, _, _, _, of_out l m N W R K ⟨h0, h1⟩⟩
theorem push_out {N W R K : Int} {l : List Int} (m c b : Int) (h : ¬ ((c = 0 ∨ c = 1) ∧ 0 ≤ b ∧ b < N)) : chain_Push.f l m N W R K c b = some (false, m, l) := by
  unfold chain_Push.f chain_put_F90.f
  by_cases hc : c = 0 ∨ c = 1
  · obtain ⟨x, y, z, w, e⟩ := of_any l m N W R K c
    rw [e]
    simp only [Option.bind_some, ground_Ground_Conf.f]
    cases w
    · rfl
    · rw [if_pos rfl]
      by_cases h0 : b < 0
      · rw [if_pos h0]; rfl
      · rw [if_neg h0, if_pos (by omega)]; rfl
  · rw [of_out _ _ _ _ _ _ (by omega)]
    rfl
theorem add_out {N W R K : Int} {l : List Int} (m c b : Int) (h : ¬ ((c = 0 ∨ c = 1) ∧ 0 ≤ b ∧ b < N)) : chain_Add.f l m N W R K c b = some (false, m, l) := by
  unfold chain_Add.f chain_put_F89.f
  by_cases hc : c = 0 ∨ c = 1
  · obtain ⟨x, y, z, w, e⟩ := of_any l m N W R K c
    rw [e]
    simp only [Option.bind_some, ground_Ground_Conf.f]
    cases w
    · rfl
    · rw [if_pos rfl]
      by_cases h0 : b < 0
      · rw [if_pos h0]; rfl
      · rw [if_neg h0, if_pos (by omega)]; rfl
  · rw [of_out _ _ _ _ _ _ (by omega)]
    rfl
theorem take_out {N W R K : Int} {l : List Int} (m c : Int) (h : c ≠ 0 ∧ c ≠ 1) : chain_Take.f l m N W R K c = some (0, false, m, l) := by
  unfold chain_Take.f
  rw [of_out _ _ _ _ _ _ h]
  rfl
theorem first_out {N W R K : Int} {l : List Int} (m c : Int) (h : c ≠ 0 ∧ c ≠ 1) : chain_First.f l m N W R K c = some (0, false, m) := by
  unfold chain_First.f
  rw [of_out _ _ _ _ _ _ h]
  rfl
theorem len_out {N W R K : Int} {l : List Int} (m c : Int) (h : c ≠ 0 ∧ c ≠ 1) : chain_Len.f l m N W R K c = some (0, m) := by
  unfold chain_Len.f
  rw [of_out _ _ _ _ _ _ h]
  rfl
theorem list_out {N W R K : Int} {l : List Int} (k : Nat) (m c : Int) (h : c ≠ 0 ∧ c ≠ 1) : chain_List.f k l m N W R K c = some [] := by
  unfold chain_List.f
  rw [of_out _ _ _ _ _ _ h]
  rfl
theorem take_none' {N W R K : Int} {l : List Int} (h : OK N W R K l) (m : Int) {k : Int} {r : Nat} (hk : chainAt k r) (hL : Chain N W R l r []) : chain_Take.f l m N W R K k = some (0, false, IntKind.u64.wrap (m + 1), l) := by
  have hr : r + 2 < 24 := by rcases hk with ⟨_, rfl⟩ | ⟨_, rfl⟩ <;> decide
  unfold chain_Take.f
  rw [of_at _ _ _ _ _ _ hk]
  simp only [Option.bind_some, if_true]
  rw [Reg_at h m (i := r) (by omega), hL.first]
  simp only [Option.bind_some, headv, if_true]
theorem first_nil {N W R K : Int} {l : List Int} (h : OK N W R K l) (m : Int) {k : Int} {r : Nat} (hk : chainAt k r) (hL : Chain N W R l r []) : chain_First.f l m N W R K k = some (0, false, IntKind.u64.wrap (m + 1)) := by
  have hr : r + 2 < 24 := by rcases hk with ⟨_, rfl⟩ | ⟨_, rfl⟩ <;> decide
  unfold chain_First.f
  rw [of_at _ _ _ _ _ _ hk]
  simp only [Option.bind_some, if_true]
  rw [Reg_at h m (i := r) (by omega), hL.first]
  simp only [Option.bind_some, headv]
  rw [wrap64_id (n := 0 - 1) (by decide) (by decide), if_pos (by decide)]
  rfl
theorem first_cons {N W R K : Int} {l : List Int} (h : OK N W R K l) (m : Int) {k : Int} {r : Nat} {a : Int} {L : List Int} (hk : chainAt k r) (hL : Chain N W R l r (a :: L)) : chain_First.f l m N W R K k = some (a, true, IntKind.u64.wrap (m + 1)) := by
  have hr : r + 2 < 24 := by rcases hk with ⟨_, rfl⟩ | ⟨_, rfl⟩ <;> decide
  have ha := hL.mem a (by simp)
  have hN := h.may.2.1
  unfold chain_First.f
  rw [of_at _ _ _ _ _ _ hk]
  simp only [Option.bind_some, if_true]
  rw [Reg_at h m (i := r) (by omega), hL.first]
  simp only [Option.bind_some, headv]
  rw [wrap64_id (n := a + 1 - 1) (by omega) (by omega), if_neg (by omega), show a + 1 - 1 = a by omega, decide_eq_true (by omega)]
/-- Two chains, apart. -/
structure CP (N W R K : Int) (l LA LB : List Int) : Prop where
  ok : OK N W R K l
  a : Chain N W R l 0 LA
  b : Chain N W R l 3 LB
  apart : ∀ x ∈ LA, x ∉ LB
def Post (N W R K : Int) (LA LB : List Int) : ((Bool × Int × List Int) ⊕ ((Bool × Int × List Int × List Int) ⊕ (Bool × Int × List Int × List Int))) → Prop
  | .inl (t, _, l) => t = true ∧ CP N W R K l LA LB
  | .inr (.inl (t, _, l, L)) => t = true ∧ CP N W R K l L LB
  | .inr (.inr (t, _, l, L)) => t = true ∧ CP N W R K l LA L
theorem zero16 (m : Int) : IntKind.u64.wrap (m - m) ≤ 16 := by rw [Int.sub_self, wrapu]; decide
theorem SeeLink0 {N W R K : Int} {l : List Int} (h : OK N W R K l) (m : Int) {b : Int} (hb : 0 ≤ b ∧ b < N) (e : link W R l b = 0) : ground_Ground_SeeWord.f l m N W R K b 5 = some 0 := by rw [SeeLink_at h m hb, e]
theorem conf_eq (l : List Int) (m N W R K : Int) : ground_Ground_Conf.f l m N W R K = some (N, W, R, K) := rfl
theorem bind_l {α β γ : Type} {x : Option (α ⊕ β)} {a : α} (h : x = some (.inl a)) (f : α → Option γ) (g : β → Option γ) : (x.bind fun t => Sum.elim f g t) = f a := by rw [h]; rfl
theorem bind_r {α β γ : Type} {x : Option (α ⊕ β)} {a : β} (h : x = some (.inr a)) (f : α → Option γ) (g : β → Option γ) : (x.bind fun t => Sum.elim f g t) = g a := by rw [h]; rfl
theorem bind_rl {α β δ γ : Type} {x : Option (α ⊕ (β ⊕ δ))} {a : β} (h : x = some (.inr (.inl a))) (f : α → Option γ) (g : β → Option γ) (i : δ → Option γ) : (x.bind fun t => Sum.elim f (fun s => Sum.elim g i s) t) = g a := by rw [h]; rfl
theorem bind_rr {α β δ γ : Type} {x : Option (α ⊕ (β ⊕ δ))} {a : δ} (h : x = some (.inr (.inr a))) (f : α → Option γ) (g : β → Option γ) (i : δ → Option γ) : (x.bind fun t => Sum.elim f (fun s => Sum.elim g i s) t) = i a := by rw [h]; rfl
theorem Of0 (LA LB : List Int) : quitrentref08_Chains_Of.f LA LB 0 = some (.inl ()) := by unfold quitrentref08_Chains_Of.f; rw [if_pos rfl]
theorem Of1 (LA LB : List Int) : quitrentref08_Chains_Of.f LA LB 1 = some (.inr ()) := by unfold quitrentref08_Chains_Of.f; rw [if_neg (by decide)]
theorem Set0 (LA LB L : List Int) : quitrentref08_Chains_Set_1.f LA LB 0 L = some (.inl ()) := by unfold quitrentref08_Chains_Set_1.f; rw [if_pos rfl]
theorem Set1 (LA LB L : List Int) : quitrentref08_Chains_Set_1.f LA LB 1 L = some (.inr ()) := by unfold quitrentref08_Chains_Set_1.f; rw [if_neg (by decide)]
theorem acc16 {m m' : Int} (h : Acc 16 m m') : IntKind.u64.wrap (m' - m) ≤ 16 := by
  have := h.sub (by decide)
  omega
theorem one16 (m : Int) : IntKind.u64.wrap (IntKind.u64.wrap (m + 1) - m) ≤ 16 := by
  have := ((Acc.refl 0 m).step).sub (by decide)
  omega
theorem two32 (m : Int) : ¬ IntKind.u64.wrap (IntKind.u64.wrap (IntKind.u64.wrap (m + 1) + 1) - m) > 32 := by
  have := (((Acc.refl 0 m).step).step).sub (by decide)
  omega

theorem do0_put {N W R K : Int} {l LA LB : List Int} (h : CP N W R K l LA LB) (hN3 : N ≤ 300) (m : Int) (k : Nat) (hk : 400 ≤ k) (b : Int) :
    (∃ r, quitrentlaw08_do.f k l m N W R K LA LB 0 0 b = some r ∧ Post N W R K LA LB r) ∧ (∃ r, quitrentlaw08_do.f k l m N W R K LA LB 1 0 b = some r ∧ Post N W R K LA LB r) := by
  have hN := h.ok.may.1
  have fa := h.a.few (by omega)
  have fb := h.b.few (by omega)
  by_cases hb0 : 0 ≤ b
  · by_cases hbN : b < N
    · by_cases hs : b ∈ LA ∨ b ∈ LB
      · refine ⟨⟨.inl (true, m, l), ?_, rfl, h⟩, ⟨.inl (true, m, l), ?_, rfl, h⟩⟩
        · unfold quitrentlaw08_do.f
          rw [if_pos rfl]
          rw [if_pos hb0]
          refine Eq.trans (bind_is (conf_eq l m N W R K) _) ?_
          refine Eq.trans (bind_l (Of0 LA LB) _ _) ?_
          refine Eq.trans (bind_is (Meter_eq l m N W R K) _) ?_
          rw [if_pos rfl, if_pos hbN]
          refine Eq.trans (bind_is (stands_in LA LB b (by omega) (by omega) k (by omega)) _) ?_
          rw [decide_eq_true hs, if_pos rfl]
        · unfold quitrentlaw08_do.f
          rw [if_pos rfl]
          rw [if_pos hb0]
          refine Eq.trans (bind_is (conf_eq l m N W R K) _) ?_
          refine Eq.trans (bind_l (Of0 LA LB) _ _) ?_
          refine Eq.trans (bind_is (Meter_eq l m N W R K) _) ?_
          rw [if_neg (by decide), if_pos rfl, if_pos hbN]
          refine Eq.trans (bind_is (stands_in LA LB b (by omega) (by omega) k (by omega)) _) ?_
          rw [decide_eq_true hs, if_pos rfl]
      · have hnA : b ∉ LA := fun e => hs (Or.inl e)
        have hnB : b ∉ LB := fun e => hs (Or.inr e)
        obtain ⟨m1, l1, e1, hO1, hL1, hM1, hA1, _⟩ := push_chain h.ok m (k := 0) (r := 0) (q := 3) (Or.inl ⟨rfl, rfl⟩) (by decide) h.a h.b ⟨hb0, hbN⟩ hnA hnB (by omega)
        obtain ⟨m2, l2, e2, hO2, hL2, hM2, hA2, _⟩ := add_chain h.ok m (k := 0) (r := 0) (q := 3) (Or.inl ⟨rfl, rfl⟩) (by decide) h.a h.b ⟨hb0, hbN⟩ hnA hnB (fun x hx hy => h.apart x hx hy) (by omega)
        refine ⟨⟨.inr (.inl (true, m1, l1, b :: LA)), ?_, rfl, ⟨hO1, hL1, hM1, (fun x hx hy => by rcases List.mem_cons.1 hx with e | e; exact hnB (e ▸ hy); exact h.apart x e hy)⟩⟩, ⟨.inr (.inl (true, m2, l2, LA ++ [b])), ?_, rfl, ⟨hO2, hL2, hM2, (fun x hx hy => by rcases List.mem_append.1 hx with e | e; exact h.apart x e hy; exact hnB ((List.mem_singleton.1 e) ▸ hy))⟩⟩⟩
        · unfold quitrentlaw08_do.f
          rw [if_pos rfl]
          rw [if_pos hb0]
          refine Eq.trans (bind_is (conf_eq l m N W R K) _) ?_
          refine Eq.trans (bind_l (Of0 LA LB) _ _) ?_
          refine Eq.trans (bind_is (Meter_eq l m N W R K) _) ?_
          rw [if_pos rfl, if_pos hbN]
          refine Eq.trans (bind_is (stands_in LA LB b (by omega) (by omega) k (by omega)) _) ?_
          rw [decide_eq_false hs, if_neg (by decide)]
          refine Eq.trans (bind_is (front_eq LA b (by omega) k (by omega)) _) ?_
          refine Eq.trans (bind_l (Set0 LA LB _) _ _) ?_
          refine Eq.trans (bind_is e1 _) ?_
          show (if true = true then _ else _) = _
          rw [if_pos rfl]
          refine Eq.trans (bind_is (Meter_eq l1 m1 N W R K) _) ?_
          rw [decide_eq_true (acc16 hA1)]
        · unfold quitrentlaw08_do.f
          rw [if_pos rfl]
          rw [if_pos hb0]
          refine Eq.trans (bind_is (conf_eq l m N W R K) _) ?_
          refine Eq.trans (bind_l (Of0 LA LB) _ _) ?_
          refine Eq.trans (bind_is (Meter_eq l m N W R K) _) ?_
          rw [if_neg (by decide), if_pos rfl, if_pos hbN]
          refine Eq.trans (bind_is (stands_in LA LB b (by omega) (by omega) k (by omega)) _) ?_
          rw [decide_eq_false hs, if_neg (by decide)]
          refine Eq.trans (bind_is (behind_eq LA b (by omega) k (by omega)) _) ?_
          refine Eq.trans (bind_l (Set0 LA LB _) _ _) ?_
          refine Eq.trans (bind_is e2 _) ?_
          show (if true = true then _ else _) = _
          rw [if_pos rfl]
          refine Eq.trans (bind_is (Meter_eq l2 m2 N W R K) _) ?_
          rw [decide_eq_true (acc16 hA2)]
    · refine ⟨⟨.inl (true, m, l), ?_, rfl, h⟩, ⟨.inl (true, m, l), ?_, rfl, h⟩⟩
      · unfold quitrentlaw08_do.f
        rw [if_pos rfl]
        rw [if_pos hb0]
        refine Eq.trans (bind_is (conf_eq l m N W R K) _) ?_
        refine Eq.trans (bind_l (Of0 LA LB) _ _) ?_
        refine Eq.trans (bind_is (Meter_eq l m N W R K) _) ?_
        rw [if_pos rfl, if_neg hbN]
        refine Eq.trans (bind_is (push_out m 0 b (by omega)) _) ?_
        show (if false = true then _ else _) = _
        rw [if_neg (by decide)]
        refine Eq.trans (bind_is (Meter_eq l m N W R K) _) ?_
        rw [decide_eq_true (zero16 m)]
      · unfold quitrentlaw08_do.f
        rw [if_pos rfl]
        rw [if_pos hb0]
        refine Eq.trans (bind_is (conf_eq l m N W R K) _) ?_
        refine Eq.trans (bind_l (Of0 LA LB) _ _) ?_
        refine Eq.trans (bind_is (Meter_eq l m N W R K) _) ?_
        rw [if_neg (by decide), if_pos rfl, if_neg hbN]
        refine Eq.trans (bind_is (add_out m 0 b (by omega)) _) ?_
        show (if false = true then _ else _) = _
        rw [if_neg (by decide)]
        refine Eq.trans (bind_is (Meter_eq l m N W R K) _) ?_
        rw [decide_eq_true (zero16 m)]
  · refine ⟨⟨.inl (true, m, l), ?_, rfl, h⟩, ⟨.inl (true, m, l), ?_, rfl, h⟩⟩
    · unfold quitrentlaw08_do.f
      rw [if_pos rfl]
      rw [if_neg (by omega)]
      refine Eq.trans (bind_l (Of0 LA LB) _ _) ?_
      refine Eq.trans (bind_is (Meter_eq l m N W R K) _) ?_
      rw [if_pos rfl]
      refine Eq.trans (bind_is (push_out m 0 b (by omega)) _) ?_
      show (if false = true then _ else _) = _
      rw [if_neg (by decide)]
      refine Eq.trans (bind_is (Meter_eq l m N W R K) _) ?_
      rw [decide_eq_true (zero16 m)]
    · unfold quitrentlaw08_do.f
      rw [if_pos rfl]
      rw [if_neg (by omega)]
      refine Eq.trans (bind_l (Of0 LA LB) _ _) ?_
      refine Eq.trans (bind_is (Meter_eq l m N W R K) _) ?_
      rw [if_neg (by decide), if_pos rfl]
      refine Eq.trans (bind_is (add_out m 0 b (by omega)) _) ?_
      show (if false = true then _ else _) = _
      rw [if_neg (by decide)]
      refine Eq.trans (bind_is (Meter_eq l m N W R K) _) ?_
      rw [decide_eq_true (zero16 m)]

theorem do0_take {N W R K : Int} {l LA LB : List Int} (h : CP N W R K l LA LB) (hN3 : N ≤ 300) (m : Int) (k : Nat) (hk : 400 ≤ k) (b : Int) : ∃ r, quitrentlaw08_do.f k l m N W R K LA LB 2 0 b = some r ∧ Post N W R K LA LB r := by
  have hN := h.ok.may.1
  have fa := h.a.few (by omega)
  have fb := h.b.few (by omega)
  cases LA with
  | nil =>
    refine ⟨.inl (true, IntKind.u64.wrap (m + 1), l), ?_, rfl, h⟩
    unfold quitrentlaw08_do.f
    rw [if_pos rfl]
    by_cases hb0 : b ≥ 0
    · rw [if_pos hb0]
      refine Eq.trans (bind_is (conf_eq l m N W R K) _) ?_
      refine Eq.trans (bind_l (Of0 _ _) _ _) ?_
      refine Eq.trans (bind_is (Meter_eq l m N W R K) _) ?_
      rw [if_neg (by decide), if_neg (by decide), if_pos rfl]
      refine Eq.trans (bind_is (take_none' h.ok m (Or.inl ⟨rfl, rfl⟩) h.a) _) ?_
      show (if (([] : List Int).length : Int) = 0 then (if (0 : Int) = 0 then (if false = true then _ else _) else _) else _) = _
      rw [if_pos (show (([] : List Int).length : Int) = 0 from rfl), if_pos (show (0 : Int) = 0 from rfl), if_neg (by decide)]
      refine Eq.trans (bind_is (Meter_eq l _ N W R K) _) ?_
      rw [decide_eq_true (one16 m)]
    · rw [if_neg hb0]
      refine Eq.trans (bind_l (Of0 _ _) _ _) ?_
      refine Eq.trans (bind_is (Meter_eq l m N W R K) _) ?_
      rw [if_neg (by decide), if_neg (by decide), if_pos rfl]
      refine Eq.trans (bind_is (take_none' h.ok m (Or.inl ⟨rfl, rfl⟩) h.a) _) ?_
      show (if (([] : List Int).length : Int) = 0 then (if (0 : Int) = 0 then (if false = true then _ else _) else _) else _) = _
      rw [if_pos (show (([] : List Int).length : Int) = 0 from rfl), if_pos (show (0 : Int) = 0 from rfl), if_neg (by decide)]
      refine Eq.trans (bind_is (Meter_eq l _ N W R K) _) ?_
      rw [decide_eq_true (one16 m)]
  | cons a L =>
    have ha := h.a.mem a (by simp)
    simp only [List.length_cons] at fa fb
    obtain ⟨m1, l1, e1, hO1, hL1, hM1, hA1, _, hz⟩ := take_chain h.ok m (k := 0) (r := 0) (q := 3) (Or.inl ⟨rfl, rfl⟩) (by decide) h.a h.b (h.apart a (by simp)) (by omega)
    refine ⟨.inr (.inl (true, m1, l1, L)), ?_, rfl, ⟨hO1, hL1, hM1, (fun x hx hy => h.apart x (by simp [hx]) hy)⟩⟩
    unfold quitrentlaw08_do.f
    rw [if_pos rfl]
    by_cases hb0 : b ≥ 0
    · rw [if_pos hb0]
      refine Eq.trans (bind_is (conf_eq l m N W R K) _) ?_
      refine Eq.trans (bind_l (Of0 _ _) _ _) ?_
      refine Eq.trans (bind_is (Meter_eq l m N W R K) _) ?_
      rw [if_neg (by decide), if_neg (by decide), if_pos rfl]
      refine Eq.trans (bind_is e1 _) ?_
      rw [if_neg (by simp only [List.length_cons]; omega)]
      refine Eq.trans (bind_is (rest_eq a L (by omega) k (by omega)) _) ?_
      refine Eq.trans (bind_l (Set0 _ _ _) _ _) ?_
      show (if 0 < ((a :: L).length : Int) then (if a = rd (a :: L) 0 then (if true = true then _ else _) else _) else _) = _
      rw [if_pos (by simp only [List.length_cons]; omega), if_pos (show a = rd (a :: L) 0 from rfl), if_pos rfl]
      refine Eq.trans (bind_is (SeeLink0 hO1 m1 ha hz) _) ?_
      rw [if_pos rfl]
      refine Eq.trans (bind_is (Meter_eq l1 m1 N W R K) _) ?_
      rw [decide_eq_true (acc16 hA1)]
    · rw [if_neg hb0]
      refine Eq.trans (bind_l (Of0 _ _) _ _) ?_
      refine Eq.trans (bind_is (Meter_eq l m N W R K) _) ?_
      rw [if_neg (by decide), if_neg (by decide), if_pos rfl]
      refine Eq.trans (bind_is e1 _) ?_
      rw [if_neg (by simp only [List.length_cons]; omega)]
      refine Eq.trans (bind_is (rest_eq a L (by omega) k (by omega)) _) ?_
      refine Eq.trans (bind_l (Set0 _ _ _) _ _) ?_
      show (if 0 < ((a :: L).length : Int) then (if a = rd (a :: L) 0 then (if true = true then _ else _) else _) else _) = _
      rw [if_pos (by simp only [List.length_cons]; omega), if_pos (show a = rd (a :: L) 0 from rfl), if_pos rfl]
      refine Eq.trans (bind_is (SeeLink0 hO1 m1 ha hz) _) ?_
      rw [if_pos rfl]
      refine Eq.trans (bind_is (Meter_eq l1 m1 N W R K) _) ?_
      rw [decide_eq_true (acc16 hA1)]

theorem do0_look {N W R K : Int} {l LA LB : List Int} (h : CP N W R K l LA LB) (hN3 : N ≤ 300) (m : Int) (k : Nat) (hk : 400 ≤ k) (kd b : Int) (h0 : ¬ kd = 0) (h1 : ¬ kd = 1) (h2 : ¬ kd = 2) : ∃ r, quitrentlaw08_do.f k l m N W R K LA LB kd 0 b = some r ∧ Post N W R K LA LB r := by
  have hN := h.ok.may.1
  have fa := h.a.few (by omega)
  have fb := h.b.few (by omega)
  refine ⟨.inl (true, IntKind.u64.wrap (IntKind.u64.wrap (m + 1) + 1), l), ?_, rfl, h⟩
  cases LA with
  | nil =>
    unfold quitrentlaw08_do.f
    rw [if_pos rfl]
    by_cases hb0 : b ≥ 0
    · rw [if_pos hb0]
      refine Eq.trans (bind_is (conf_eq l m N W R K) _) ?_
      refine Eq.trans (bind_l (Of0 _ _) _ _) ?_
      refine Eq.trans (bind_is (Meter_eq l m N W R K) _) ?_
      rw [if_neg h0, if_neg h1, if_neg h2]
      refine Eq.trans (bind_is (first_nil h.ok m (Or.inl ⟨rfl, rfl⟩) h.a) _) ?_
      refine Eq.trans (bind_is (len_chain h.ok (IntKind.u64.wrap (m + 1)) (Or.inl ⟨rfl, rfl⟩) h.a) _) ?_
      show (if (([] : List Int).length : Int) = (([] : List Int).length : Int) then (if false = true then _ else (if (([] : List Int).length : Int) > 0 then _ else (if (0 : Int) = 0 then _ else _))) else _) = _
      rw [if_pos rfl, if_neg (by decide), if_neg (by decide), if_pos rfl]
      refine Eq.trans (bind_is (Meter_eq l _ N W R K) _) ?_
      rw [if_neg (two32 m)]
      refine Eq.trans (bind_is (Meter_eq l _ N W R K) _) ?_
      refine Eq.trans (bind_is (list_chain h.ok _ (Or.inl ⟨rfl, rfl⟩) h.a k (by simp; omega) (by simp; omega)) _) ?_
      refine Eq.trans (bind_is (ints_eq [] (by decide) k (by simp; omega)) _) ?_
      rw [if_pos rfl]
      refine Eq.trans (bind_is (Meter_eq l _ N W R K) _) ?_
      rw [beq_self_eq_true]
    · rw [if_neg hb0]
      refine Eq.trans (bind_l (Of0 _ _) _ _) ?_
      refine Eq.trans (bind_is (Meter_eq l m N W R K) _) ?_
      rw [if_neg h0, if_neg h1, if_neg h2]
      refine Eq.trans (bind_is (first_nil h.ok m (Or.inl ⟨rfl, rfl⟩) h.a) _) ?_
      refine Eq.trans (bind_is (len_chain h.ok (IntKind.u64.wrap (m + 1)) (Or.inl ⟨rfl, rfl⟩) h.a) _) ?_
      show (if (([] : List Int).length : Int) = (([] : List Int).length : Int) then (if false = true then _ else (if (([] : List Int).length : Int) > 0 then _ else (if (0 : Int) = 0 then _ else _))) else _) = _
      rw [if_pos rfl, if_neg (by decide), if_neg (by decide), if_pos rfl]
      refine Eq.trans (bind_is (Meter_eq l _ N W R K) _) ?_
      rw [if_neg (two32 m)]
      refine Eq.trans (bind_is (Meter_eq l _ N W R K) _) ?_
      refine Eq.trans (bind_is (list_chain h.ok _ (Or.inl ⟨rfl, rfl⟩) h.a k (by simp; omega) (by simp; omega)) _) ?_
      refine Eq.trans (bind_is (ints_eq [] (by decide) k (by simp; omega)) _) ?_
      rw [if_pos rfl]
      refine Eq.trans (bind_is (Meter_eq l _ N W R K) _) ?_
      rw [beq_self_eq_true]
  | cons a L =>
    have hal : (a :: L).length = L.length + 1 := rfl
    unfold quitrentlaw08_do.f
    rw [if_pos rfl]
    by_cases hb0 : b ≥ 0
    · rw [if_pos hb0]
      refine Eq.trans (bind_is (conf_eq l m N W R K) _) ?_
      refine Eq.trans (bind_l (Of0 _ _) _ _) ?_
      refine Eq.trans (bind_is (Meter_eq l m N W R K) _) ?_
      rw [if_neg h0, if_neg h1, if_neg h2]
      refine Eq.trans (bind_is (first_cons h.ok m (Or.inl ⟨rfl, rfl⟩) h.a) _) ?_
      refine Eq.trans (bind_is (len_chain h.ok (IntKind.u64.wrap (m + 1)) (Or.inl ⟨rfl, rfl⟩) h.a) _) ?_
      show (if ((a :: L).length : Int) = ((a :: L).length : Int) then (if true = true then (if ((a :: L).length : Int) > 0 then (if 0 < ((a :: L).length : Int) then (if a = rd (a :: L) 0 then _ else _) else _) else _) else _) else _) = _
      rw [if_pos rfl, if_pos rfl, if_pos (by simp only [List.length_cons]; omega), if_pos (by simp only [List.length_cons]; omega), if_pos (show a = rd (a :: L) 0 from rfl)]
      refine Eq.trans (bind_is (Meter_eq l _ N W R K) _) ?_
      rw [if_neg (two32 m)]
      refine Eq.trans (bind_is (Meter_eq l _ N W R K) _) ?_
      refine Eq.trans (bind_is (list_chain h.ok _ (Or.inl ⟨rfl, rfl⟩) h.a k (by omega) (by omega)) _) ?_
      refine Eq.trans (bind_is (ints_eq (a :: L) (by omega) k (by omega)) _) ?_
      rw [if_pos rfl]
      refine Eq.trans (bind_is (Meter_eq l _ N W R K) _) ?_
      rw [beq_self_eq_true]
    · rw [if_neg hb0]
      refine Eq.trans (bind_l (Of0 _ _) _ _) ?_
      refine Eq.trans (bind_is (Meter_eq l m N W R K) _) ?_
      rw [if_neg h0, if_neg h1, if_neg h2]
      refine Eq.trans (bind_is (first_cons h.ok m (Or.inl ⟨rfl, rfl⟩) h.a) _) ?_
      refine Eq.trans (bind_is (len_chain h.ok (IntKind.u64.wrap (m + 1)) (Or.inl ⟨rfl, rfl⟩) h.a) _) ?_
      show (if ((a :: L).length : Int) = ((a :: L).length : Int) then (if true = true then (if ((a :: L).length : Int) > 0 then (if 0 < ((a :: L).length : Int) then (if a = rd (a :: L) 0 then _ else _) else _) else _) else _) else _) = _
      rw [if_pos rfl, if_pos rfl, if_pos (by simp only [List.length_cons]; omega), if_pos (by simp only [List.length_cons]; omega), if_pos (show a = rd (a :: L) 0 from rfl)]
      refine Eq.trans (bind_is (Meter_eq l _ N W R K) _) ?_
      rw [if_neg (two32 m)]
      refine Eq.trans (bind_is (Meter_eq l _ N W R K) _) ?_
      refine Eq.trans (bind_is (list_chain h.ok _ (Or.inl ⟨rfl, rfl⟩) h.a k (by omega) (by omega)) _) ?_
      refine Eq.trans (bind_is (ints_eq (a :: L) (by omega) k (by omega)) _) ?_
      rw [if_pos rfl]
      refine Eq.trans (bind_is (Meter_eq l _ N W R K) _) ?_
      rw [beq_self_eq_true]

theorem do1_put {N W R K : Int} {l LA LB : List Int} (h : CP N W R K l LA LB) (hN3 : N ≤ 300) (m : Int) (k : Nat) (hk : 400 ≤ k) (b : Int) :
    (∃ r, quitrentlaw08_do.f k l m N W R K LA LB 0 1 b = some r ∧ Post N W R K LA LB r) ∧ (∃ r, quitrentlaw08_do.f k l m N W R K LA LB 1 1 b = some r ∧ Post N W R K LA LB r) := by
  have hN := h.ok.may.1
  have fa := h.a.few (by omega)
  have fb := h.b.few (by omega)
  by_cases hb0 : 0 ≤ b
  · by_cases hbN : b < N
    · by_cases hs : b ∈ LA ∨ b ∈ LB
      · refine ⟨⟨.inl (true, m, l), ?_, rfl, h⟩, ⟨.inl (true, m, l), ?_, rfl, h⟩⟩
        · unfold quitrentlaw08_do.f
          rw [if_neg (by decide), if_pos rfl]
          rw [if_pos hb0]
          refine Eq.trans (bind_is (conf_eq l m N W R K) _) ?_
          refine Eq.trans (bind_r (Of1 LA LB) _ _) ?_
          refine Eq.trans (bind_is (Meter_eq l m N W R K) _) ?_
          rw [if_pos rfl, if_pos hbN]
          refine Eq.trans (bind_is (stands_in LA LB b (by omega) (by omega) k (by omega)) _) ?_
          rw [decide_eq_true hs, if_pos rfl]
        · unfold quitrentlaw08_do.f
          rw [if_neg (by decide), if_pos rfl]
          rw [if_pos hb0]
          refine Eq.trans (bind_is (conf_eq l m N W R K) _) ?_
          refine Eq.trans (bind_r (Of1 LA LB) _ _) ?_
          refine Eq.trans (bind_is (Meter_eq l m N W R K) _) ?_
          rw [if_neg (by decide), if_pos rfl, if_pos hbN]
          refine Eq.trans (bind_is (stands_in LA LB b (by omega) (by omega) k (by omega)) _) ?_
          rw [decide_eq_true hs, if_pos rfl]
      · have hnA : b ∉ LA := fun e => hs (Or.inl e)
        have hnB : b ∉ LB := fun e => hs (Or.inr e)
        obtain ⟨m1, l1, e1, hO1, hL1, hM1, hA1, _⟩ := push_chain h.ok m (k := 1) (r := 3) (q := 0) (Or.inr ⟨rfl, rfl⟩) (by decide) h.b h.a ⟨hb0, hbN⟩ hnB hnA (by omega)
        obtain ⟨m2, l2, e2, hO2, hL2, hM2, hA2, _⟩ := add_chain h.ok m (k := 1) (r := 3) (q := 0) (Or.inr ⟨rfl, rfl⟩) (by decide) h.b h.a ⟨hb0, hbN⟩ hnB hnA (fun x hx hy => h.apart x hy hx) (by omega)
        refine ⟨⟨.inr (.inr (true, m1, l1, b :: LB)), ?_, rfl, ⟨hO1, hM1, hL1, (fun x hx hy => by rcases List.mem_cons.1 hy with e | e; exact hnA (e ▸ hx); exact h.apart x hx e)⟩⟩, ⟨.inr (.inr (true, m2, l2, LB ++ [b])), ?_, rfl, ⟨hO2, hM2, hL2, (fun x hx hy => by rcases List.mem_append.1 hy with e | e; exact h.apart x hx e; exact hnA ((List.mem_singleton.1 e) ▸ hx))⟩⟩⟩
        · unfold quitrentlaw08_do.f
          rw [if_neg (by decide), if_pos rfl]
          rw [if_pos hb0]
          refine Eq.trans (bind_is (conf_eq l m N W R K) _) ?_
          refine Eq.trans (bind_r (Of1 LA LB) _ _) ?_
          refine Eq.trans (bind_is (Meter_eq l m N W R K) _) ?_
          rw [if_pos rfl, if_pos hbN]
          refine Eq.trans (bind_is (stands_in LA LB b (by omega) (by omega) k (by omega)) _) ?_
          rw [decide_eq_false hs, if_neg (by decide)]
          refine Eq.trans (bind_is (front_eq LB b (by omega) k (by omega)) _) ?_
          refine Eq.trans (bind_r (Set1 LA LB _) _ _) ?_
          refine Eq.trans (bind_is e1 _) ?_
          show (if true = true then _ else _) = _
          rw [if_pos rfl]
          refine Eq.trans (bind_is (Meter_eq l1 m1 N W R K) _) ?_
          rw [decide_eq_true (acc16 hA1)]
        · unfold quitrentlaw08_do.f
          rw [if_neg (by decide), if_pos rfl]
          rw [if_pos hb0]
          refine Eq.trans (bind_is (conf_eq l m N W R K) _) ?_
          refine Eq.trans (bind_r (Of1 LA LB) _ _) ?_
          refine Eq.trans (bind_is (Meter_eq l m N W R K) _) ?_
          rw [if_neg (by decide), if_pos rfl, if_pos hbN]
          refine Eq.trans (bind_is (stands_in LA LB b (by omega) (by omega) k (by omega)) _) ?_
          rw [decide_eq_false hs, if_neg (by decide)]
          refine Eq.trans (bind_is (behind_eq LB b (by omega) k (by omega)) _) ?_
          refine Eq.trans (bind_r (Set1 LA LB _) _ _) ?_
          refine Eq.trans (bind_is e2 _) ?_
          show (if true = true then _ else _) = _
          rw [if_pos rfl]
          refine Eq.trans (bind_is (Meter_eq l2 m2 N W R K) _) ?_
          rw [decide_eq_true (acc16 hA2)]
    · refine ⟨⟨.inl (true, m, l), ?_, rfl, h⟩, ⟨.inl (true, m, l), ?_, rfl, h⟩⟩
      · unfold quitrentlaw08_do.f
        rw [if_neg (by decide), if_pos rfl]
        rw [if_pos hb0]
        refine Eq.trans (bind_is (conf_eq l m N W R K) _) ?_
        refine Eq.trans (bind_r (Of1 LA LB) _ _) ?_
        refine Eq.trans (bind_is (Meter_eq l m N W R K) _) ?_
        rw [if_pos rfl, if_neg hbN]
        refine Eq.trans (bind_is (push_out m 1 b (by omega)) _) ?_
        show (if false = true then _ else _) = _
        rw [if_neg (by decide)]
        refine Eq.trans (bind_is (Meter_eq l m N W R K) _) ?_
        rw [decide_eq_true (zero16 m)]
      · unfold quitrentlaw08_do.f
        rw [if_neg (by decide), if_pos rfl]
        rw [if_pos hb0]
        refine Eq.trans (bind_is (conf_eq l m N W R K) _) ?_
        refine Eq.trans (bind_r (Of1 LA LB) _ _) ?_
        refine Eq.trans (bind_is (Meter_eq l m N W R K) _) ?_
        rw [if_neg (by decide), if_pos rfl, if_neg hbN]
        refine Eq.trans (bind_is (add_out m 1 b (by omega)) _) ?_
        show (if false = true then _ else _) = _
        rw [if_neg (by decide)]
        refine Eq.trans (bind_is (Meter_eq l m N W R K) _) ?_
        rw [decide_eq_true (zero16 m)]
  · refine ⟨⟨.inl (true, m, l), ?_, rfl, h⟩, ⟨.inl (true, m, l), ?_, rfl, h⟩⟩
    · unfold quitrentlaw08_do.f
      rw [if_neg (by decide), if_pos rfl]
      rw [if_neg (by omega)]
      refine Eq.trans (bind_r (Of1 LA LB) _ _) ?_
      refine Eq.trans (bind_is (Meter_eq l m N W R K) _) ?_
      rw [if_pos rfl]
      refine Eq.trans (bind_is (push_out m 1 b (by omega)) _) ?_
      show (if false = true then _ else _) = _
      rw [if_neg (by decide)]
      refine Eq.trans (bind_is (Meter_eq l m N W R K) _) ?_
      rw [decide_eq_true (zero16 m)]
    · unfold quitrentlaw08_do.f
      rw [if_neg (by decide), if_pos rfl]
      rw [if_neg (by omega)]
      refine Eq.trans (bind_r (Of1 LA LB) _ _) ?_
      refine Eq.trans (bind_is (Meter_eq l m N W R K) _) ?_
      rw [if_neg (by decide), if_pos rfl]
      refine Eq.trans (bind_is (add_out m 1 b (by omega)) _) ?_
      show (if false = true then _ else _) = _
      rw [if_neg (by decide)]
      refine Eq.trans (bind_is (Meter_eq l m N W R K) _) ?_
      rw [decide_eq_true (zero16 m)]

theorem do1_take {N W R K : Int} {l LA LB : List Int} (h : CP N W R K l LA LB) (hN3 : N ≤ 300) (m : Int) (k : Nat) (hk : 400 ≤ k) (b : Int) : ∃ r, quitrentlaw08_do.f k l m N W R K LA LB 2 1 b = some r ∧ Post N W R K LA LB r := by
  have hN := h.ok.may.1
  have fa := h.a.few (by omega)
  have fb := h.b.few (by omega)
  cases LB with
  | nil =>
    refine ⟨.inl (true, IntKind.u64.wrap (m + 1), l), ?_, rfl, h⟩
    unfold quitrentlaw08_do.f
    rw [if_neg (by decide), if_pos rfl]
    by_cases hb0 : b ≥ 0
    · rw [if_pos hb0]
      refine Eq.trans (bind_is (conf_eq l m N W R K) _) ?_
      refine Eq.trans (bind_r (Of1 _ _) _ _) ?_
      refine Eq.trans (bind_is (Meter_eq l m N W R K) _) ?_
      rw [if_neg (by decide), if_neg (by decide), if_pos rfl]
      refine Eq.trans (bind_is (take_none' h.ok m (Or.inr ⟨rfl, rfl⟩) h.b) _) ?_
      show (if (([] : List Int).length : Int) = 0 then (if (0 : Int) = 0 then (if false = true then _ else _) else _) else _) = _
      rw [if_pos (show (([] : List Int).length : Int) = 0 from rfl), if_pos (show (0 : Int) = 0 from rfl), if_neg (by decide)]
      refine Eq.trans (bind_is (Meter_eq l _ N W R K) _) ?_
      rw [decide_eq_true (one16 m)]
    · rw [if_neg hb0]
      refine Eq.trans (bind_r (Of1 _ _) _ _) ?_
      refine Eq.trans (bind_is (Meter_eq l m N W R K) _) ?_
      rw [if_neg (by decide), if_neg (by decide), if_pos rfl]
      refine Eq.trans (bind_is (take_none' h.ok m (Or.inr ⟨rfl, rfl⟩) h.b) _) ?_
      show (if (([] : List Int).length : Int) = 0 then (if (0 : Int) = 0 then (if false = true then _ else _) else _) else _) = _
      rw [if_pos (show (([] : List Int).length : Int) = 0 from rfl), if_pos (show (0 : Int) = 0 from rfl), if_neg (by decide)]
      refine Eq.trans (bind_is (Meter_eq l _ N W R K) _) ?_
      rw [decide_eq_true (one16 m)]
  | cons a L =>
    have ha := h.b.mem a (by simp)
    simp only [List.length_cons] at fa fb
    obtain ⟨m1, l1, e1, hO1, hL1, hM1, hA1, _, hz⟩ := take_chain h.ok m (k := 1) (r := 3) (q := 0) (Or.inr ⟨rfl, rfl⟩) (by decide) h.b h.a (fun e => h.apart a e (by simp)) (by omega)
    refine ⟨.inr (.inr (true, m1, l1, L)), ?_, rfl, ⟨hO1, hM1, hL1, (fun x hx hy => h.apart x hx (by simp [hy]))⟩⟩
    unfold quitrentlaw08_do.f
    rw [if_neg (by decide), if_pos rfl]
    by_cases hb0 : b ≥ 0
    · rw [if_pos hb0]
      refine Eq.trans (bind_is (conf_eq l m N W R K) _) ?_
      refine Eq.trans (bind_r (Of1 _ _) _ _) ?_
      refine Eq.trans (bind_is (Meter_eq l m N W R K) _) ?_
      rw [if_neg (by decide), if_neg (by decide), if_pos rfl]
      refine Eq.trans (bind_is e1 _) ?_
      rw [if_neg (by simp only [List.length_cons]; omega)]
      refine Eq.trans (bind_is (rest_eq a L (by omega) k (by omega)) _) ?_
      refine Eq.trans (bind_r (Set1 _ _ _) _ _) ?_
      show (if 0 < ((a :: L).length : Int) then (if a = rd (a :: L) 0 then (if true = true then _ else _) else _) else _) = _
      rw [if_pos (by simp only [List.length_cons]; omega), if_pos (show a = rd (a :: L) 0 from rfl), if_pos rfl]
      refine Eq.trans (bind_is (SeeLink0 hO1 m1 ha hz) _) ?_
      rw [if_pos rfl]
      refine Eq.trans (bind_is (Meter_eq l1 m1 N W R K) _) ?_
      rw [decide_eq_true (acc16 hA1)]
    · rw [if_neg hb0]
      refine Eq.trans (bind_r (Of1 _ _) _ _) ?_
      refine Eq.trans (bind_is (Meter_eq l m N W R K) _) ?_
      rw [if_neg (by decide), if_neg (by decide), if_pos rfl]
      refine Eq.trans (bind_is e1 _) ?_
      rw [if_neg (by simp only [List.length_cons]; omega)]
      refine Eq.trans (bind_is (rest_eq a L (by omega) k (by omega)) _) ?_
      refine Eq.trans (bind_r (Set1 _ _ _) _ _) ?_
      show (if 0 < ((a :: L).length : Int) then (if a = rd (a :: L) 0 then (if true = true then _ else _) else _) else _) = _
      rw [if_pos (by simp only [List.length_cons]; omega), if_pos (show a = rd (a :: L) 0 from rfl), if_pos rfl]
      refine Eq.trans (bind_is (SeeLink0 hO1 m1 ha hz) _) ?_
      rw [if_pos rfl]
      refine Eq.trans (bind_is (Meter_eq l1 m1 N W R K) _) ?_
      rw [decide_eq_true (acc16 hA1)]

theorem do1_look {N W R K : Int} {l LA LB : List Int} (h : CP N W R K l LA LB) (hN3 : N ≤ 300) (m : Int) (k : Nat) (hk : 400 ≤ k) (kd b : Int) (h0 : ¬ kd = 0) (h1 : ¬ kd = 1) (h2 : ¬ kd = 2) : ∃ r, quitrentlaw08_do.f k l m N W R K LA LB kd 1 b = some r ∧ Post N W R K LA LB r := by
  have hN := h.ok.may.1
  have fa := h.a.few (by omega)
  have fb := h.b.few (by omega)
  refine ⟨.inl (true, IntKind.u64.wrap (IntKind.u64.wrap (m + 1) + 1), l), ?_, rfl, h⟩
  cases LB with
  | nil =>
    unfold quitrentlaw08_do.f
    rw [if_neg (by decide), if_pos rfl]
    by_cases hb0 : b ≥ 0
    · rw [if_pos hb0]
      refine Eq.trans (bind_is (conf_eq l m N W R K) _) ?_
      refine Eq.trans (bind_r (Of1 _ _) _ _) ?_
      refine Eq.trans (bind_is (Meter_eq l m N W R K) _) ?_
      rw [if_neg h0, if_neg h1, if_neg h2]
      refine Eq.trans (bind_is (first_nil h.ok m (Or.inr ⟨rfl, rfl⟩) h.b) _) ?_
      refine Eq.trans (bind_is (len_chain h.ok (IntKind.u64.wrap (m + 1)) (Or.inr ⟨rfl, rfl⟩) h.b) _) ?_
      show (if (([] : List Int).length : Int) = (([] : List Int).length : Int) then (if false = true then _ else (if (([] : List Int).length : Int) > 0 then _ else (if (0 : Int) = 0 then _ else _))) else _) = _
      rw [if_pos rfl, if_neg (by decide), if_neg (by decide), if_pos rfl]
      refine Eq.trans (bind_is (Meter_eq l _ N W R K) _) ?_
      rw [if_neg (two32 m)]
      refine Eq.trans (bind_is (Meter_eq l _ N W R K) _) ?_
      refine Eq.trans (bind_is (list_chain h.ok _ (Or.inr ⟨rfl, rfl⟩) h.b k (by simp; omega) (by simp; omega)) _) ?_
      refine Eq.trans (bind_is (ints_eq [] (by decide) k (by simp; omega)) _) ?_
      rw [if_pos rfl]
      refine Eq.trans (bind_is (Meter_eq l _ N W R K) _) ?_
      rw [beq_self_eq_true]
    · rw [if_neg hb0]
      refine Eq.trans (bind_r (Of1 _ _) _ _) ?_
      refine Eq.trans (bind_is (Meter_eq l m N W R K) _) ?_
      rw [if_neg h0, if_neg h1, if_neg h2]
      refine Eq.trans (bind_is (first_nil h.ok m (Or.inr ⟨rfl, rfl⟩) h.b) _) ?_
      refine Eq.trans (bind_is (len_chain h.ok (IntKind.u64.wrap (m + 1)) (Or.inr ⟨rfl, rfl⟩) h.b) _) ?_
      show (if (([] : List Int).length : Int) = (([] : List Int).length : Int) then (if false = true then _ else (if (([] : List Int).length : Int) > 0 then _ else (if (0 : Int) = 0 then _ else _))) else _) = _
      rw [if_pos rfl, if_neg (by decide), if_neg (by decide), if_pos rfl]
      refine Eq.trans (bind_is (Meter_eq l _ N W R K) _) ?_
      rw [if_neg (two32 m)]
      refine Eq.trans (bind_is (Meter_eq l _ N W R K) _) ?_
      refine Eq.trans (bind_is (list_chain h.ok _ (Or.inr ⟨rfl, rfl⟩) h.b k (by simp; omega) (by simp; omega)) _) ?_
      refine Eq.trans (bind_is (ints_eq [] (by decide) k (by simp; omega)) _) ?_
      rw [if_pos rfl]
      refine Eq.trans (bind_is (Meter_eq l _ N W R K) _) ?_
      rw [beq_self_eq_true]
  | cons a L =>
    have hal : (a :: L).length = L.length + 1 := rfl
    unfold quitrentlaw08_do.f
    rw [if_neg (by decide), if_pos rfl]
    by_cases hb0 : b ≥ 0
    · rw [if_pos hb0]
      refine Eq.trans (bind_is (conf_eq l m N W R K) _) ?_
      refine Eq.trans (bind_r (Of1 _ _) _ _) ?_
      refine Eq.trans (bind_is (Meter_eq l m N W R K) _) ?_
      rw [if_neg h0, if_neg h1, if_neg h2]
      refine Eq.trans (bind_is (first_cons h.ok m (Or.inr ⟨rfl, rfl⟩) h.b) _) ?_
      refine Eq.trans (bind_is (len_chain h.ok (IntKind.u64.wrap (m + 1)) (Or.inr ⟨rfl, rfl⟩) h.b) _) ?_
      show (if ((a :: L).length : Int) = ((a :: L).length : Int) then (if true = true then (if ((a :: L).length : Int) > 0 then (if 0 < ((a :: L).length : Int) then (if a = rd (a :: L) 0 then _ else _) else _) else _) else _) else _) = _
      rw [if_pos rfl, if_pos rfl, if_pos (by simp only [List.length_cons]; omega), if_pos (by simp only [List.length_cons]; omega), if_pos (show a = rd (a :: L) 0 from rfl)]
      refine Eq.trans (bind_is (Meter_eq l _ N W R K) _) ?_
      rw [if_neg (two32 m)]
      refine Eq.trans (bind_is (Meter_eq l _ N W R K) _) ?_
      refine Eq.trans (bind_is (list_chain h.ok _ (Or.inr ⟨rfl, rfl⟩) h.b k (by omega) (by omega)) _) ?_
      refine Eq.trans (bind_is (ints_eq (a :: L) (by omega) k (by omega)) _) ?_
      rw [if_pos rfl]
      refine Eq.trans (bind_is (Meter_eq l _ N W R K) _) ?_
      rw [beq_self_eq_true]
    · rw [if_neg hb0]
      refine Eq.trans (bind_r (Of1 _ _) _ _) ?_
      refine Eq.trans (bind_is (Meter_eq l m N W R K) _) ?_
      rw [if_neg h0, if_neg h1, if_neg h2]
      refine Eq.trans (bind_is (first_cons h.ok m (Or.inr ⟨rfl, rfl⟩) h.b) _) ?_
      refine Eq.trans (bind_is (len_chain h.ok (IntKind.u64.wrap (m + 1)) (Or.inr ⟨rfl, rfl⟩) h.b) _) ?_
      show (if ((a :: L).length : Int) = ((a :: L).length : Int) then (if true = true then (if ((a :: L).length : Int) > 0 then (if 0 < ((a :: L).length : Int) then (if a = rd (a :: L) 0 then _ else _) else _) else _) else _) else _) = _
      rw [if_pos rfl, if_pos rfl, if_pos (by simp only [List.length_cons]; omega), if_pos (by simp only [List.length_cons]; omega), if_pos (show a = rd (a :: L) 0 from rfl)]
      refine Eq.trans (bind_is (Meter_eq l _ N W R K) _) ?_
      rw [if_neg (two32 m)]
      refine Eq.trans (bind_is (Meter_eq l _ N W R K) _) ?_
      refine Eq.trans (bind_is (list_chain h.ok _ (Or.inr ⟨rfl, rfl⟩) h.b k (by omega) (by omega)) _) ?_
      refine Eq.trans (bind_is (ints_eq (a :: L) (by omega) k (by omega)) _) ?_
      rw [if_pos rfl]
      refine Eq.trans (bind_is (Meter_eq l _ N W R K) _) ?_
      rw [beq_self_eq_true]

theorem do_out {N W R K : Int} {l LA LB : List Int} (h : CP N W R K l LA LB) (m : Int) (k : Nat) (hk : 400 ≤ k) (kd c b : Int) (hc : c ≠ 0 ∧ c ≠ 1) : ∃ r, quitrentlaw08_do.f k l m N W R K LA LB kd c b = some r ∧ Post N W R K LA LB r := by
  refine ⟨.inl (true, m, l), ?_, rfl, h⟩
  unfold quitrentlaw08_do.f
  rw [if_neg hc.1, if_neg hc.2]
  refine Eq.trans (bind_is (Meter_eq l m N W R K) _) ?_
  by_cases h0 : kd = 0
  · rw [if_pos h0]
    refine Eq.trans (bind_is (push_out m c b (by omega)) _) ?_
    show (if false = true then _ else _) = _
    rw [if_neg (by decide)]
    refine Eq.trans (bind_is (Meter_eq l m N W R K) _) ?_
    rw [decide_eq_true (zero16 m)]
  rw [if_neg h0]
  by_cases h1 : kd = 1
  · rw [if_pos h1]
    refine Eq.trans (bind_is (add_out m c b (by omega)) _) ?_
    show (if false = true then _ else _) = _
    rw [if_neg (by decide)]
    refine Eq.trans (bind_is (Meter_eq l m N W R K) _) ?_
    rw [decide_eq_true (zero16 m)]
  rw [if_neg h1]
  by_cases h2 : kd = 2
  · rw [if_pos h2]
    refine Eq.trans (bind_is (take_out m c hc) _) ?_
    show (if (0 : Int) = 0 then (if false = true then _ else _) else _) = _
    rw [if_pos rfl, if_neg (by decide)]
    refine Eq.trans (bind_is (Meter_eq l m N W R K) _) ?_
    rw [decide_eq_true (zero16 m)]
  rw [if_neg h2]
  refine Eq.trans (bind_is (first_out m c hc) _) ?_
  refine Eq.trans (bind_is (len_out m c hc) _) ?_
  show (if (0 : Int) = 0 then (if false = true then _ else (if (0 : Int) = 0 then _ else _)) else _) = _
  rw [if_pos rfl, if_neg (by decide), if_pos rfl]
  refine Eq.trans (bind_is (Meter_eq l m N W R K) _) ?_
  rw [if_neg (by have := zero16 m; omega)]
  refine Eq.trans (bind_is (Meter_eq l m N W R K) _) ?_
  refine Eq.trans (bind_is (list_out k m c hc) _) ?_
  refine Eq.trans (bind_is (ints_eq [] (by decide) k (by simp; omega)) _) ?_
  rw [if_pos rfl]
  refine Eq.trans (bind_is (Meter_eq l m N W R K) _) ?_
  rw [beq_self_eq_true]
theorem do_any {N W R K : Int} {l LA LB : List Int} (h : CP N W R K l LA LB) (hN3 : N ≤ 300) (m : Int) (k : Nat) (hk : 400 ≤ k) (kd c b : Int) : ∃ r, quitrentlaw08_do.f k l m N W R K LA LB kd c b = some r ∧ Post N W R K LA LB r := by
  by_cases c0 : c = 0
  · subst c0
    by_cases h0 : kd = 0
    · subst h0; exact (do0_put h hN3 m k hk b).1
    by_cases h1 : kd = 1
    · subst h1; exact (do0_put h hN3 m k hk b).2
    by_cases h2 : kd = 2
    · subst h2; exact do0_take h hN3 m k hk b
    exact do0_look h hN3 m k hk kd b h0 h1 h2
  by_cases c1 : c = 1
  · subst c1
    by_cases h0 : kd = 0
    · subst h0; exact (do1_put h hN3 m k hk b).1
    by_cases h1 : kd = 1
    · subst h1; exact (do1_put h hN3 m k hk b).2
    by_cases h2 : kd = 2
    · subst h2; exact do1_take h hN3 m k hk b
    exact do1_look h hN3 m k hk kd b h0 h1 h2
  exact do_out h m k hk kd c b ⟨c0, c1⟩
theorem CP.stands {N W R K : Int} {l LA LB : List Int} (h : CP N W R K l LA LB) (hN3 : N ≤ 300) (m : Int) (k : Nat) (hk : 400 ≤ k) : quitrentlaw08_stands.f k l m N W R K 0 LA = some true ∧ quitrentlaw08_stands.f k l m N W R K 1 LB = some true := by
  have hN := h.ok.may.1
  have fa := h.a.few (by omega)
  have fb := h.b.few (by omega)
  exact ⟨stands_eq h.ok m (Or.inl ⟨rfl, rfl⟩) h.a k (by omega), stands_eq h.ok m (Or.inr ⟨rfl, rfl⟩) h.b k (by omega)⟩
theorem cplays {N W R K : Int} (hN3 : N ≤ 300) (L : List (Int × Int × Int)) (hL : L.length ≤ 200) (t : List Int) : ∀ (d k j : Nat) (l LA LB : List Int) (m : Int), CP N W R K l LA LB → j + d = L.length → d + 400 < k →
    ∃ o, quitrentlaw08_ChainPlays.lo0 k L (N, W, R, K, t) (j : Int) LB LA l m = some (.out o) := by
  intro d
  induction d with
  | zero =>
    intro k j l LA LB m h hj hk
    obtain ⟨k, rfl⟩ : ∃ q, k = q + 1 := ⟨k - 1, by omega⟩
    exact ⟨(LB, LA, l, m), by rw [quitrentlaw08_ChainPlays.lo0, if_neg (by omega)]⟩
  | succ d ih =>
    intro k j l LA LB m h hj hk
    obtain ⟨k, rfl⟩ : ∃ q, k = q + 1 := ⟨k - 1, by omega⟩
    obtain ⟨r, e, hp⟩ := do_any h hN3 m k (by omega) (rdOf (0, 0, 0) L (j : Int)).1 (rdOf (0, 0, 0) L (j : Int)).2.1 (rdOf (0, 0, 0) L (j : Int)).2.2
    rw [quitrentlaw08_ChainPlays.lo0, if_pos (by omega), if_pos (by omega)]
    rcases r with ⟨t1, m1, l1⟩ | ⟨t1, m1, l1, L1⟩ | ⟨t1, m1, l1, L1⟩
    · obtain ⟨rfl, h1⟩ := hp
      obtain ⟨s0, s1⟩ := h1.stands hN3 m1 k (by omega)
      obtain ⟨o, e'⟩ := ih k (j + 1) l1 LA LB m1 h1 (by omega) (by omega)
      refine ⟨o, ?_⟩
      refine Eq.trans (bind_l e _ _) ?_
      show (if true = true then _ else _) = _
      rw [if_pos rfl]
      refine Eq.trans (bind_is s0 _) ?_
      rw [if_pos rfl]
      refine Eq.trans (bind_is s1 _) ?_
      rw [if_pos rfl, next_i j (by omega)]
      exact e'
    · obtain ⟨rfl, h1⟩ := hp
      obtain ⟨s0, s1⟩ := h1.stands hN3 m1 k (by omega)
      obtain ⟨o, e'⟩ := ih k (j + 1) l1 L1 LB m1 h1 (by omega) (by omega)
      refine ⟨o, ?_⟩
      refine Eq.trans (bind_rl e _ _ _) ?_
      show (if true = true then _ else _) = _
      rw [if_pos rfl]
      refine Eq.trans (bind_is s0 _) ?_
      rw [if_pos rfl]
      refine Eq.trans (bind_is s1 _) ?_
      rw [if_pos rfl, next_i j (by omega)]
      exact e'
    · obtain ⟨rfl, h1⟩ := hp
      obtain ⟨s0, s1⟩ := h1.stands hN3 m1 k (by omega)
      obtain ⟨o, e'⟩ := ih k (j + 1) l1 LA L1 m1 h1 (by omega) (by omega)
      refine ⟨o, ?_⟩
      refine Eq.trans (bind_rr e _ _ _) ?_
      show (if true = true then _ else _) = _
      rw [if_pos rfl]
      refine Eq.trans (bind_is s0 _) ?_
      rw [if_pos rfl]
      refine Eq.trans (bind_is s1 _) ?_
      rw [if_pos rfl, next_i j (by omega)]
      exact e'
theorem begun : quitrentlaw08_begun.f 1000 = some true := by decide +kernel
theorem ChainPlays (N W R K : Int) (L : List (Int × Int × Int)) (_ : (Lit.int .i64 N).wf = true) (_ : (Lit.int .i64 W).wf = true) (_ : (Lit.int .i64 R).wf = true) (_ : (Lit.int .i64 K).wf = true) (_ : L.length ≤ 9223372036854775807)
    (_ : ∀ x ∈ L, (Lit.int .u8 x.1).wf = true ∧ (Lit.int .i64 x.2.1).wf = true ∧ (Lit.int .i64 x.2.2).wf = true) : ∃ k, quitrentlaw08_ChainPlays.f k N W R K L = some true := by
  have hb := begun
  generalize hk : 1000 = k at *
  refine ⟨k, ?_⟩
  unfold quitrentlaw08_ChainPlays.f
  by_cases h : mayv N W R K
  · refine Eq.trans (bind_is (gnew_may k (by omega) N W R K h) _) ?_
    refine Eq.trans (bind_is (May_eq N W R K) _) ?_
    rw [decide_eq_true h, if_pos rfl]
    refine Eq.trans (bind_is (Little_eq N W R K) _) ?_
    by_cases h3 : littlev N W R
    · rw [decide_eq_true h3, if_pos rfl]
      by_cases h2 : (L.length : Int) > 200
      · rw [if_pos h2]; exact bind_is hb _
      rw [if_neg h2]
      obtain ⟨o, e⟩ := cplays (K := K) h3.1 L (by omega) (List.replicate (sizev N W R) 0) L.length k 0 (List.replicate (sizev N W R) 0) [] [] 0 ⟨OK.zero h, chain_empty h, chain_empty h, by simp⟩ (by omega) (by omega)
      have e' : quitrentlaw08_ChainPlays.lo0 k L (N, W, R, K, List.replicate (sizev N W R) 0) 0 [] [] (List.replicate (sizev N W R) 0) 0 = some (.out o) := e
      refine Eq.trans (bind_is e' _) ?_
      exact bind_is hb _
    · rw [decide_eq_false h3, if_neg (by decide)]; exact bind_is hb _
  · refine Eq.trans (bind_is (gnew_not k (by omega) N W R K h) _) ?_
    refine Eq.trans (bind_is (May_eq N W R K) _) ?_
    rw [decide_eq_false h, if_neg (by decide)]; exact bind_is hb _
end Go.Proofs.Ytobeonkddamnoaa.V
