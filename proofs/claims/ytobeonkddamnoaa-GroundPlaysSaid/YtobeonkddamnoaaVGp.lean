/- The laws of the group Gp on the plain functions. No condition. -/
import Derived.Test.YtobeonkddamnoaaMGp
import Derived.DataShut
import Derived.Laws.Bits64
import Derived.Laws.BitsLemmas
import Derived.RowKit
import Derived.KernelRfl
namespace Go.Proofs.Ytobeonkddamnoaa.V
open Go.RowKit Go.Proofs.Ytobeonkddamnoaa.C Go.Proofs.Ytobeonkddamnoaa.M Go.Proofs.YtobeonkddamnoaaW.PrintWords
set_option linter.unusedVariables false
set_option linter.unusedSimpArgs false
theorem wrap64_id {n : Int} (h0 : -9223372036854775808 ≤ n) (h1 : n ≤ 9223372036854775807) : wrap64 n = n := by unfold wrap64; omega
/-- What a number counts as. -/
def cnt (n : Int) : Int := max 0 (min n 1125899906842624)
def byv (n : Int) : Int := max 1 (cnt n)
theorem cnt_bounds (n : Int) : 0 ≤ cnt n ∧ cnt n ≤ 1125899906842624 := by unfold cnt; omega
theorem byv_bounds (n : Int) : 1 ≤ byv n ∧ byv n ≤ 1125899906842624 := by have := cnt_bounds n; unfold byv; omega
theorem cnt_id {n : Int} (h : 0 ≤ n) (h' : n ≤ 1125899906842624) : cnt n = n := by unfold cnt; omega
theorem clamp_eq (n lo hi : Int) : ratio_Clamp.f n lo hi = some (if n > hi then hi else if n < lo then lo else n) := by
  unfold ratio_Clamp.f; split <;> (try split) <;> simp_all
theorem counts_eq (n : Int) : ratio_counts.f n = some (cnt n) := by
  unfold ratio_counts.f; rw [clamp_eq]; simp only [Option.bind_some, cnt]
  congr 1
  by_cases h1 : n > 1125899906842624
  · rw [if_pos h1]; omega
  · rw [if_neg h1]
    by_cases h2 : n < 0
    · rw [if_pos h2]; omega
    · rw [if_neg h2]; omega
theorem by_eq (n : Int) : ratio_by.f n = some (byv n) := by
  unfold ratio_by.f byv; rw [counts_eq]; simp only [Option.bind_some]
  by_cases h : cnt n < 1
  · rw [if_pos h]; congr 1; omega
  · rw [if_neg h]; congr 1; omega
theorem tdiv_pos {a b : Int} (h : 0 ≤ a) : Int.tdiv a b = a / b := Int.tdiv_eq_ediv_of_nonneg h
def upv (a b : Int) : Int := (cnt a + byv b - 1) / byv b
theorem div_le {a b : Int} (h : 0 ≤ a) (hb : 1 ≤ b) : 0 ≤ a / b ∧ a / b ≤ a := ⟨Int.ediv_nonneg h (by omega), Int.ediv_le_self _ h⟩
theorem up_eq (a b : Int) : ratio_Up.f a b = some (upv a b) := by
  have ha := cnt_bounds a; have hb := byv_bounds b
  have hd := div_le (a := cnt a + byv b - 1) (by omega) hb.1
  unfold ratio_Up.f upv; simp only [counts_eq, by_eq, Option.bind_some]
  rw [if_neg (by omega), wrap64_id (n := cnt a + byv b) (by omega) (by omega), wrap64_id (n := cnt a + byv b - 1) (by omega) (by omega), tdiv_pos (by omega), wrap64_id (by omega) (by omega)]
theorem up_split {x y : Int} (hy : 1 ≤ y) : (x + y - 1) / y = if x % y > 0 then x / y + 1 else x / y := by
  have e := Int.mul_ediv_add_emod x y
  have h0 := Int.emod_nonneg x (show y ≠ 0 by omega)
  have h1 := Int.emod_lt_of_pos x (show 0 < y by omega)
  split
  · rw [Int.ediv_eq_iff_of_pos (by omega)]
    have : x / y * y = y * (x / y) := Int.mul_comm _ _
    constructor
    · rw [Int.add_mul]; omega
    · rw [Int.add_mul]; omega
  · rw [Int.ediv_eq_iff_of_pos (by omega)]
    have : x / y * y = y * (x / y) := Int.mul_comm _ _
    constructor <;> omega
/-! ### lists -/
theorem rd_at (l : List Int) (j : Nat) (h : j < l.length) : rd l (j : Int) = l[j] := by
  simp [rd, List.getD_eq_getElem?_getD, List.getElem?_eq_getElem h]
theorem drop_at (l : List Int) (j : Nat) (h : j < l.length) : l.drop j = rd l (j : Int) :: l.drop (j + 1) := by
  rw [rd_at l j h]; exact List.drop_eq_getElem_cons h
theorem next_at (j : Nat) (h : j < 100000) : wrap64 ((j : Int) + 1) = ((j + 1 : Nat) : Int) := by
  rw [wrap64_id (by omega) (by omega)]; omega
def sumv : List Int → Int
  | [] => 0
  | n :: l => cnt n + sumv l
def prodv : List Int → Int
  | [] => 1
  | n :: l => cnt n * prodv l
def low (n : Int) : Int := min n 1125899906842624
def zeroIn : List Int → Bool
  | [] => false
  | n :: l => cnt n == 0 || zeroIn l
theorem sumv_nonneg : ∀ l, 0 ≤ sumv l
  | [] => Int.le_refl 0
  | n :: l => by have := sumv_nonneg l; have := cnt_bounds n; simp only [sumv]; omega
theorem prodv_pos : ∀ l, zeroIn l = false → 1 ≤ prodv l
  | [], _ => Int.le_refl 1
  | n :: l, h => by
    simp only [zeroIn, Bool.or_eq_false_iff, beq_eq_false_iff_ne] at h
    have h1 := prodv_pos l h.2
    have h2 := cnt_bounds n
    have h3 : 1 ≤ cnt n := by omega
    simp only [prodv]
    have := Int.mul_le_mul h3 h1 (by omega) (by omega)
    omega
theorem sumv_append (a b : List Int) : sumv (a ++ b) = sumv a + sumv b := by
  induction a with
  | nil => simp [sumv]
  | cons n a ih => simp only [List.cons_append, sumv, ih]; omega
theorem sumv_reverse (l : List Int) : sumv l.reverse = sumv l := by
  induction l with
  | nil => rfl
  | cons n l ih => simp only [List.reverse_cons, sumv_append, sumv, ih]; omega
theorem prodv_append (a b : List Int) : prodv (a ++ b) = prodv a * prodv b := by
  induction a with
  | nil => simp [prodv]
  | cons n a ih => simp only [List.cons_append, prodv, ih, Int.mul_assoc]
theorem prodv_reverse (l : List Int) : prodv l.reverse = prodv l := by
  induction l with
  | nil => rfl
  | cons n l ih => simp only [List.reverse_cons, prodv_append, prodv, ih, Int.mul_one]; exact Int.mul_comm _ _
theorem zeroIn_append (a b : List Int) : zeroIn (a ++ b) = (zeroIn a || zeroIn b) := by
  induction a with
  | nil => rfl
  | cons n a ih => simp only [List.cons_append, zeroIn, ih, Bool.or_assoc]
theorem zeroIn_reverse (l : List Int) : zeroIn l.reverse = zeroIn l := by
  induction l with
  | nil => rfl
  | cons n l ih => simp only [List.reverse_cons, zeroIn_append, zeroIn, ih, Bool.or_false]; exact Bool.or_comm _ _
def addv (l : List Int) : Int := low (sumv l)
def mulv (l : List Int) : Int := if zeroIn l = true then 0 else low (prodv l)
theorem low_bounds {n : Int} (h : 0 ≤ n) : 0 ≤ low n ∧ low n ≤ 1125899906842624 := by unfold low; omega
theorem add_loop (l : List Int) (hl : l.length < 1000) : ∀ (d j k : Nat) (s : Int), j + d = l.length → d < k → 0 ≤ s → s ≤ 1125899906842624 → ratio_Add.lo0 k l s j = some (low (s + sumv (l.drop j))) := by
  intro d
  induction d with
  | zero =>
    intro j k s h hk h0 h1
    obtain ⟨k, rfl⟩ : ∃ q, k = q + 1 := ⟨k - 1, by omega⟩
    rw [ratio_Add.lo0, if_neg (by omega), List.drop_eq_nil_of_le (by omega)]
    simp only [sumv, low]; congr 1; omega
  | succ d ih =>
    intro j k s h hk h0 h1
    obtain ⟨k, rfl⟩ : ∃ q, k = q + 1 := ⟨k - 1, by omega⟩
    have hc := cnt_bounds (rd l j)
    have hs := sumv_nonneg (l.drop (j + 1))
    rw [ratio_Add.lo0, if_pos (by omega), if_pos (by omega), counts_eq, next_at j (by omega)]
    simp only [Option.bind_some]
    rw [wrap64_id (by omega) (by omega), drop_at l j (by omega)]
    split
    · rw [ih (j + 1) k _ (by omega) (by omega) (by omega) (by omega)]
      simp only [sumv, low]
      congr 1
      omega
    · rw [ih (j + 1) k _ (by omega) (by omega) (by omega) (by omega)]
      simp only [sumv]
      congr 2
      omega
theorem add_eq (k : Nat) (hk : 200 ≤ k) (l : List Int) (hl : l.length < 150) : ratio_Add.f k l = some (addv l) := by
  unfold ratio_Add.f
  have := add_loop l (by omega) l.length 0 k 0 (by omega) (by omega) (by omega) (by omega)
  rw [show ((0 : Nat) : Int) = 0 from rfl] at this
  rw [this]
  simp [addv]
theorem low_mul {s c : Int} (h0 : 0 ≤ s) (hc : 1 ≤ c) : low (low s * c) = low (s * c) := by
  unfold low
  by_cases h : s ≤ 1125899906842624
  · rw [show min s 1125899906842624 = s by omega]
  · rw [show min s 1125899906842624 = 1125899906842624 by omega]
    have h1 : 1125899906842624 * c ≤ s * c := Int.mul_le_mul_of_nonneg_right (by omega) (by omega)
    have h2 : 1125899906842624 * 1 ≤ 1125899906842624 * c := Int.mul_le_mul_of_nonneg_left hc (by omega)
    omega
theorem mul_step {s c : Int} (hc : 1 ≤ c) :
    (s ≤ wrap64 (Int.tdiv (1125899906842624 : Int) c)) ↔ s * c ≤ 1125899906842624 := by
  rw [tdiv_pos (by omega), wrap64_id (by have := div_le (a := 1125899906842624) (by omega) hc; omega) (by have := div_le (a := 1125899906842624) (by omega) hc; omega)]
  exact Int.le_ediv_iff_mul_le (by omega)
theorem mul_loop (l : List Int) (hl : l.length < 1000) : ∀ (d j k : Nat) (s : Int), j + d = l.length → d < k → 1 ≤ s → s ≤ 1125899906842624 → zeroIn (l.drop j) = false → ratio_Mul.lo0 k l s j = some (low (s * prodv (l.drop j))) := by
  intro d
  induction d with
  | zero =>
    intro j k s h hk h0 h1 hz
    obtain ⟨k, rfl⟩ : ∃ q, k = q + 1 := ⟨k - 1, by omega⟩
    rw [ratio_Mul.lo0, if_neg (by omega), List.drop_eq_nil_of_le (by omega)]
    simp only [prodv, low, Int.mul_one]; congr 1; omega
  | succ d ih =>
    intro j k s h hk h0 h1 hz
    obtain ⟨k, rfl⟩ : ∃ q, k = q + 1 := ⟨k - 1, by omega⟩
    have hb := cnt_bounds (rd l j)
    rw [drop_at l j (by omega)] at hz ⊢
    simp only [zeroIn, Bool.or_eq_false_iff, beq_eq_false_iff_ne] at hz
    have hc : 1 ≤ cnt (rd l j) := by omega
    have hp := prodv_pos _ hz.2
    have hsc : 1 * 1 ≤ s * cnt (rd l j) := Int.mul_le_mul h0 hc (by omega) (by omega)
    rw [ratio_Mul.lo0, if_pos (by omega), if_pos (by omega), counts_eq, next_at j (by omega)]
    simp only [Option.bind_some]
    rw [if_neg (by omega)]
    have hst := mul_step (s := s) hc
    have e := low_mul (s := s * cnt (rd l j)) (by omega) hp
    simp only [prodv]
    rw [← Int.mul_assoc, ← e]
    by_cases h2 : s * cnt (rd l j) ≤ 1125899906842624
    · rw [if_pos (hst.2 h2), wrap64_id (by omega) (by omega), ih (j + 1) k _ (by omega) (by omega) (by omega) (by omega) hz.2]
      rw [show low (s * cnt (rd l j)) = s * cnt (rd l j) by unfold low; omega]
    · rw [if_neg (fun h => h2 (hst.1 h)), ih (j + 1) k _ (by omega) (by omega) (by omega) (by omega) hz.2]
      rw [show low (s * cnt (rd l j)) = 1125899906842624 by unfold low; omega]
theorem zero_eq (n : Int) : ratio_zero.f n = some (cnt n == 0) := by
  unfold ratio_zero.f; rw [counts_eq]; rfl
theorem idx_loop (l : List Int) (hl : l.length < 1000) : ∀ (d j k : Nat), j + d = l.length → d < k →
    (zeroIn (l.drop j) = false ∧ slices_IndexFunc_int_int_F118.lo0 k l j = some (.out ())) ∨ (zeroIn (l.drop j) = true ∧ ∃ i : Int, 0 ≤ i ∧ slices_IndexFunc_int_int_F118.lo0 k l j = some (.ret i)) := by
  intro d
  induction d with
  | zero =>
    intro j k h hk
    obtain ⟨k, rfl⟩ : ∃ q, k = q + 1 := ⟨k - 1, by omega⟩
    rw [slices_IndexFunc_int_int_F118.lo0, if_neg (by omega), List.drop_eq_nil_of_le (by omega)]
    exact .inl ⟨rfl, rfl⟩
  | succ d ih =>
    intro j k h hk
    obtain ⟨k, rfl⟩ : ∃ q, k = q + 1 := ⟨k - 1, by omega⟩
    rw [drop_at l j (by omega), slices_IndexFunc_int_int_F118.lo0, if_pos (by omega), if_pos (by omega), zero_eq, next_at j (by omega)]
    simp only [Option.bind_some, zeroIn]
    cases hc : cnt (rd l j) == 0
    · simpa using ih (j + 1) k (by omega) (by omega)
    · right; simp
theorem contains_eq (k : Nat) (hk : 200 ≤ k) (l : List Int) (hl : l.length < 150) : slices_ContainsFunc_int_int_F118.f k l = some (zeroIn l) := by
  unfold slices_ContainsFunc_int_int_F118.f slices_IndexFunc_int_int_F118.f
  have := idx_loop l (by omega) l.length 0 k (by omega) (by omega)
  rw [show ((0 : Nat) : Int) = 0 from rfl] at this
  rcases this with ⟨h1, h2⟩ | ⟨h1, i, h0, h2⟩
  · rw [List.drop_zero] at h1; simp [h1, h2, Lp.elim]
  · rw [List.drop_zero] at h1; simp [h1, h2, Lp.elim, h0]
theorem mul_eq (k : Nat) (hk : 200 ≤ k) (l : List Int) (hl : l.length < 150) : ratio_Mul.f k l = some (mulv l) := by
  unfold ratio_Mul.f mulv
  rw [contains_eq k hk l hl]
  simp only [Option.bind_some]
  cases hz : zeroIn l
  · have := mul_loop l (by omega) l.length 0 k 1 (by omega) (by omega) (by omega) (by omega) (by simpa using hz)
    rw [show ((0 : Nat) : Int) = 0 from rfl] at this
    rw [this]
    simp
  · simp
theorem mul2 (k : Nat) (hk : 200 ≤ k) {a b : Int} (ha : 0 ≤ a) (ha' : a ≤ 1125899906842624) (hb : 0 ≤ b) (hb' : b ≤ 1125899906842624) (h : a * b ≤ 1125899906842624) : ratio_Mul.f k [a, b] = some (a * b) := by
  rw [mul_eq k hk _ (by simp)]
  congr 1
  unfold mulv
  simp only [zeroIn, prodv, cnt_id ha ha', cnt_id hb hb', Int.mul_one, Bool.or_false, Bool.or_eq_true, beq_iff_eq]
  by_cases h0 : a = 0 ∨ b = 0
  · rw [if_pos h0]
    rcases h0 with rfl | rfl <;> simp
  · rw [if_neg h0]; unfold low; omega
theorem add2 (k : Nat) (hk : 200 ≤ k) {a b : Int} (ha : 0 ≤ a) (hb : 0 ≤ b) (h : a + b ≤ 1125899906842624) : ratio_Add.f k [a, b] = some (a + b) := by
  rw [add_eq k hk _ (by simp)]
  congr 1
  unfold addv
  simp only [sumv, cnt_id ha (by omega), cnt_id hb (by omega)]
  unfold low; omega
theorem add3 (k : Nat) (hk : 200 ≤ k) {a b c : Int} (ha : 0 ≤ a) (hb : 0 ≤ b) (hc : 0 ≤ c) (h : a + b + c ≤ 1125899906842624) : ratio_Add.f k [a, b, c] = some (a + b + c) := by
  rw [add_eq k hk _ (by simp)]
  congr 1
  unfold addv
  simp only [sumv, cnt_id ha (by omega), cnt_id hb (by omega), cnt_id hc (by omega)]
  unfold low; omega
def ceilv (a b : Int) : Int := (a + b - 1) / b
theorem ceil_spec {x y : Int} (hy : 1 ≤ y) : ceilv x y * y - y < x ∧ x ≤ ceilv x y * y := by
  have e := Int.mul_ediv_add_emod (x + y - 1) y
  have h0 := Int.emod_nonneg (x + y - 1) (show y ≠ 0 by omega)
  have h1 := Int.emod_lt_of_pos (x + y - 1) (show 0 < y by omega)
  have hL : ceilv x y = (x + y - 1) / y := rfl
  rw [← hL, Int.mul_comm] at e
  omega
theorem ceil_bounds {x y : Int} (hx : 0 ≤ x) (hy : 1 ≤ y) : 0 ≤ ceilv x y ∧ ceilv x y ≤ x := by
  have hs := ceil_spec (x := x) hy
  constructor
  · exact Int.ediv_nonneg (by omega) (by omega)
  · rcases Int.lt_or_le x (ceilv x y) with h | h
    · have h1 : x * 1 ≤ x * y := Int.mul_le_mul_of_nonneg_left hy hx
      have h2 : (x + 1) * y ≤ ceilv x y * y := Int.mul_le_mul_of_nonneg_right (by omega) (by omega)
      rw [Int.add_mul] at h2
      omega
    · exact h
theorem ceil_le {x y L : Int} (hy : 1 ≤ y) (h : x ≤ L * y) : ceilv x y ≤ L := by
  have hs := ceil_spec (x := x) hy
  have : (ceilv x y - 1) * y < L * y := by rw [Int.sub_mul]; omega
  have := Int.lt_of_mul_lt_mul_right this (by omega)
  omega
theorem upc (a b : Int) (ha : 0 ≤ a) (ha' : a ≤ 1125899906842624) (hb : 1 ≤ b) (hb' : b ≤ 1125899906842624) : ratio_Up.f a b = some (ceilv a b) := by
  rw [up_eq]
  congr 1
  unfold upv ceilv byv
  rw [cnt_id ha ha', cnt_id (n := b) (by omega) hb', show max 1 b = b by omega]
/-! ### the plan -/
def mayv (N W R K : Int) : Prop := 1 ≤ N ∧ N ≤ 1048576 ∧ 16 ≤ W ∧ W ≤ 256 ∧ 1 ≤ R ∧ R ≤ 4096 ∧ 1 ≤ K ∧ K ≤ 65536 ∧ N * W ≤ 4194304
instance (N W R K : Int) : Decidable (mayv N W R K) := by unfold mayv; infer_instance
theorem nw_small {N W : Int} (h1 : 1 ≤ N) (h2 : N ≤ 1048576) (h3 : 16 ≤ W) (h4 : W ≤ 256) : 16 ≤ N * W ∧ N * W ≤ 268435456 := by
  have a : 1 * 16 ≤ N * W := Int.mul_le_mul h1 h3 (by omega) (by omega)
  have b : N * W ≤ 1048576 * 256 := Int.mul_le_mul h2 h4 (by omega) (by omega)
  omega
theorem within_eq (n lo hi : Int) (_ : lo ≤ hi) : plan_within.f n lo hi = some (decide (lo ≤ n ∧ n ≤ hi)) := by
  unfold plan_within.f
  rw [clamp_eq]
  simp only [Option.bind_some]
  congr 1
  rw [Bool.eq_iff_iff, beq_iff_eq, decide_eq_true_eq]
  by_cases h1 : n > hi
  · rw [if_pos h1]; omega
  · rw [if_neg h1]
    by_cases h2 : n < lo
    · rw [if_pos h2]; omega
    · rw [if_neg h2]; omega
theorem check_eq (N W R K : Int) : plan_Check.f N W R K = some (if mayv N W R K then 0 else 1) := by
  unfold plan_Check.f
  simp only [within_eq _ 1 1048576 (by decide), within_eq _ 16 256 (by decide), within_eq _ 1 4096 (by decide), within_eq _ 1 65536 (by decide), Option.bind_some, decide_eq_true_eq]
  by_cases h1 : 1 ≤ N ∧ N ≤ 1048576
  · rw [if_pos h1]
    by_cases h2 : 16 ≤ W ∧ W ≤ 256
    · rw [if_pos h2]
      have := nw_small h1.1 h1.2 h2.1 h2.2
      rw [wrap64_id (by omega) (by omega)]
      by_cases h3 : 1 ≤ R ∧ R ≤ 4096
      · rw [if_pos h3]
        by_cases h4 : 1 ≤ K ∧ K ≤ 65536
        · rw [if_pos h4]
          by_cases h5 : N * W ≤ 4194304
          · rw [if_pos h5, if_pos (show mayv N W R K by unfold mayv; omega)]
          · rw [if_neg h5, if_neg (show ¬ mayv N W R K by unfold mayv; omega)]
        · rw [if_neg h4, if_neg (show ¬ mayv N W R K by unfold mayv; omega)]
      · rw [if_neg h3, if_neg (show ¬ mayv N W R K by unfold mayv; omega)]
    · rw [if_neg h2, if_neg (show ¬ mayv N W R K by unfold mayv; omega)]
  · rw [if_neg h1, if_neg (show ¬ mayv N W R K by unfold mayv; omega)]
def drainv (N W : Int) : Int := N * (W + 1)
def epochv (N W : Int) : Int := 3 * drainv N W + 4
def lagv (N W K : Int) : Int := 2 * ceilv (epochv N W) K + 2 * (W - 7)
def settlev (N W K : Int) : Int := ceilv (epochv N W + epochv N W + drainv N W) K + 2
def ofv (N W R K : Int) : Int × Int × Int × Int × Int × Int × Int × Int × Int :=
  if mayv N W R K then (24 + R + N * W, W - 8, W - 7, (W - 8) * (W - 1), epochv N W, drainv N W, lagv N W K, settlev N W K, 0) else (0, 0, 0, 0, 0, 0, 0, 0, 1)
theorem drain_bounds {N W R K : Int} (h : mayv N W R K) : 17 ≤ drainv N W ∧ drainv N W ≤ 5242880 ∧ drainv N W = N * W + N := by
  obtain ⟨a, b, c, d, _, _, _, _, e⟩ := h
  have := nw_small a b c d
  have e : drainv N W = N * W + N := by unfold drainv; rw [Int.mul_add]; omega
  omega
theorem of_eq (k : Nat) (hk : 200 ≤ k) (N W R K : Int) : plan_Of.f k N W R K = some (ofv N W R K) := by
  unfold plan_Of.f ofv
  rw [check_eq]
  simp only [Option.bind_some]
  by_cases h : mayv N W R K
  · simp only [if_pos h]
    rw [if_pos trivial]
    have hd := drain_bounds h
    obtain ⟨a, b, c, d, e, f, g, i, j⟩ := h
    have hs := nw_small a b c d
    have hf : (W - 8) * (W - 1) ≤ 248 * 255 := Int.mul_le_mul (by omega) (by omega) (by omega) (by omega)
    have hdr : N * (W + 1) = drainv N W := rfl
    have hep : 3 * drainv N W + 4 = epochv N W := rfl
    rw [wrap64_id (n := W - 8) (by omega) (by omega), wrap64_id (n := W - 1) (by omega) (by omega), wrap64_id (n := W + 1) (by omega) (by omega), wrap64_id (n := W - 8 + 1) (by omega) (by omega)]
    have c1 := ceil_bounds (x := epochv N W) (y := K) (by omega) g
    have c2 := ceil_bounds (x := epochv N W + epochv N W + drainv N W) (y := K) (by omega) g
    rw [mul2 k hk (a := N) (b := W) (by omega) (by omega) (by omega) (by omega) (by omega)]
    simp only [Option.bind_some]
    rw [add3 k hk (by omega) (by omega) (by omega) (by omega)]
    simp only [Option.bind_some]
    rw [mul2 k hk (a := W - 8) (b := W - 1) (by omega) (by omega) (by omega) (by omega) (by omega)]
    simp only [Option.bind_some]
    rw [mul2 k hk (a := N) (b := W + 1) (by omega) (by omega) (by omega) (by omega) (by omega), hdr]
    simp only [Option.bind_some]
    rw [mul2 k hk (a := 3) (b := drainv N W) (by omega) (by omega) (by omega) (by omega) (by omega)]
    simp only [Option.bind_some]
    rw [add2 k hk (by omega) (by omega) (by omega), hep]
    simp only [Option.bind_some]
    rw [upc _ _ (by omega) (by omega) g (by omega)]
    simp only [Option.bind_some]
    rw [mul2 k hk (a := 2) (b := ceilv (epochv N W) K) (by omega) (by omega) (by omega) (by omega) (by omega)]
    simp only [Option.bind_some]
    rw [show W - 8 + 1 = W - 7 by omega, mul2 k hk (a := 2) (b := W - 7) (by omega) (by omega) (by omega) (by omega) (by omega)]
    simp only [Option.bind_some]
    rw [add2 k hk (by omega) (by omega) (by omega)]
    simp only [Option.bind_some]
    rw [add3 k hk (by omega) (by omega) (by omega) (by omega)]
    simp only [Option.bind_some]
    rw [upc _ _ (by omega) (by omega) g (by omega)]
    simp only [Option.bind_some]
    rw [add2 k hk (by omega) (by omega) (by omega)]
    rfl
  · simp only [if_neg h]
    rw [if_neg (by decide)]
theorem has_eq (l : List Int) (m a : Int) : store_Store_has.f l m a = some (decide (0 ≤ a ∧ a < (l.length : Int))) := by
  unfold store_Store_has.f
  by_cases h : a ≥ 0
  · rw [if_pos h]; congr 1; exact decide_eq_decide.2 (by omega)
  · rw [if_neg h]; congr 1; exact (decide_eq_false (by omega)).symm
theorem put_eq (l : List Int) (m i w : Int) : store_Store_Put.f l m i w = some (if 0 ≤ i ∧ i < (l.length : Int) then (true, IntKind.u64.wrap (m + 1), l.set i.toNat w) else (false, m, l)) := by
  unfold store_Store_Put.f
  rw [has_eq]
  simp only [Option.bind_some, decide_eq_true_eq]
  by_cases h : 0 ≤ i ∧ i < (l.length : Int)
  · rw [if_pos h, if_pos h]
    simp only [atomic_Uint64_Add.f, Option.bind_some]
    rw [if_pos h.1, if_pos h.2]
  · rw [if_neg h, if_neg h]
theorem get_eq (l : List Int) (m i : Int) : store_Store_Get.f l m i = some (if 0 ≤ i ∧ i < (l.length : Int) then (rd l i, IntKind.u64.wrap (m + 1)) else (0, m)) := by
  unfold store_Store_Get.f
  rw [has_eq]
  simp only [Option.bind_some, decide_eq_true_eq]
  by_cases h : 0 ≤ i ∧ i < (l.length : Int)
  · rw [if_pos h, if_pos h]
    simp only [atomic_Uint64_Add.f, Option.bind_some]
    rw [if_pos h.1, if_pos h.2]
  · rw [if_neg h, if_neg h]
theorem peek_eq (l : List Int) (m i : Int) : store_Store_Peek.f l m i = some (if 0 ≤ i ∧ i < (l.length : Int) then rd l i else 0) := by
  unfold store_Store_Peek.f
  rw [has_eq]
  simp only [Option.bind_some, decide_eq_true_eq]
  by_cases h : 0 ≤ i ∧ i < (l.length : Int)
  · rw [if_pos h, if_pos h, if_pos h.1, if_pos h.2]
  · rw [if_neg h, if_neg h]
theorem new_in (n : Int) (h0 : 0 ≤ n) (h1 : n ≤ 8388608) : store_New.f n = some (.inr (List.replicate n.toNat 0)) := by
  unfold store_New.f
  rw [if_neg (by omega), if_neg (by omega)]
  unfold M.mkLen
  rw [if_pos (by omega)]
  rfl
theorem new_out (n : Int) (h : n < 0 ∨ 8388608 < n) : store_New.f n = some (.inl ()) := by
  unfold store_New.f
  by_cases h0 : n < 0
  · rw [if_pos h0]
  · rw [if_neg h0, if_pos (by omega)]
theorem words_eq (l : List Int) (m : Int) (h : l.length ≤ 35184372088832) : store_Store_Words.f l m = some l := by
  unfold store_Store_Words.f slices_Clone_uint32_uint32.f
  rw [if_pos h]; rfl
theorem rd_nat (l : List Int) (j : Nat) (h : j < l.length) : rd l (j : Int) = l[j] := by
  simp [rd, List.getD_eq_getElem?_getD, List.getElem?_eq_getElem h]
theorem rd_set (l : List Int) (i j : Int) (x : Int) (h0 : 0 ≤ i) (h1 : i < (l.length : Int)) (h2 : 0 ≤ j) : rd (l.set i.toNat x) j = if i = j then x else rd l j := by
  simp only [rd, List.getD_eq_getElem?_getD, List.getElem?_set]
  by_cases h : i = j
  · subst h; rw [if_pos rfl, if_pos (show i.toNat < l.length by omega), if_pos rfl]; rfl
  · rw [if_neg (show ¬ i.toNat = j.toNat by omega), if_neg h]
theorem next_i (j : Nat) (h : j < 4611686018427387904) : wrap64 ((j : Int) + 1) = ((j + 1 : Nat) : Int) := by
  unfold wrap64; omega
theorem same_lo (a b : List Int) (hl : a.length = b.length) (hm : a.length < 4611686018427387904) : ∀ (d k j : Nat), j + d = a.length → d < k → quitrentref01_Same.lo0 k a b (j : Int) = some (if a.drop j = b.drop j then .out () else .ret false) := by
  intro d
  induction d with
  | zero =>
    intro k j hj hk
    obtain ⟨k, rfl⟩ : ∃ q, k = q + 1 := ⟨k - 1, by omega⟩
    rw [quitrentref01_Same.lo0, if_neg (by omega), List.drop_of_length_le (by omega), List.drop_of_length_le (by omega), if_pos rfl]
  | succ d ih =>
    intro k j hj hk
    obtain ⟨k, rfl⟩ : ∃ q, k = q + 1 := ⟨k - 1, by omega⟩
    have ha : j < a.length := by omega
    have hb : j < b.length := by omega
    rw [quitrentref01_Same.lo0, if_pos (by omega), if_pos (by omega), if_pos (by omega), rd_nat a j ha, rd_nat b j hb, List.drop_eq_getElem_cons ha, List.drop_eq_getElem_cons hb]
    by_cases h : a[j] = b[j]
    · rw [if_pos h, next_i j (by omega), ih k (j + 1) (by omega) (by omega), h]
      by_cases he : a.drop (j + 1) = b.drop (j + 1)
      · rw [if_pos he, if_pos (by rw [he])]
      · rw [if_neg he, if_neg (fun e => he (List.cons.inj e).2)]
    · rw [if_neg h, if_neg (fun e => h (List.cons.inj e).1)]
theorem same_eq (k : Nat) (a b : List Int) (hm : a.length < 4611686018427387904) (hk : a.length < k) : quitrentref01_Same.f k a b = some (decide (a = b)) := by
  unfold quitrentref01_Same.f
  by_cases hl : a.length = b.length
  · rw [if_pos (by omega)]
    have := same_lo a b hl hm a.length k 0 (by omega) hk
    simp only [List.drop_zero] at this
    rw [show ((0 : Nat) : Int) = 0 from rfl] at this
    rw [this]
    by_cases h : a = b
    · rw [if_pos h]; simp [M.Lp.elim, h]
    · rw [if_neg h]; simp [M.Lp.elim, h]
  · rw [if_neg (by omega)]
    congr 1
    exact (decide_eq_false (fun h => hl (by rw [h]))).symm
theorem w0 : wrap64 0 = 0 := by unfold wrap64; decide
theorem mayW {N W R K : Int} (h : mayv N W R K) : 0 ≤ 24 + R + N * W ∧ 24 + R + N * W ≤ 8388608 := by
  have := nw_small h.1 h.2.1 h.2.2.1 h.2.2.2.1
  unfold mayv at h
  generalize N * W = q at *
  omega
/-- How many words a ground has. -/
def sizev (N W R : Int) : Nat := (24 + R + N * W).toNat
theorem size_cast {N W R K : Int} (h : mayv N W R K) : ((sizev N W R : Nat) : Int) = 24 + R + N * W := by
  unfold sizev; have := (mayW h).1; omega
theorem gnew_may (k : Nat) (hk : 200 ≤ k) (N W R K : Int) (h : mayv N W R K) : ground_New.f k N W R K = some (.inr (.inl (N, W, R, K, List.replicate (sizev N W R) 0))) := by
  unfold ground_New.f
  rw [of_eq k hk]
  unfold ofv
  simp only [Option.bind_some]
  rw [if_pos h]
  simp only [if_true]
  rw [new_in _ (mayW h).1 (mayW h).2]
  rfl
theorem gnew_not (k : Nat) (hk : 200 ≤ k) (N W R K : Int) (h : ¬ mayv N W R K) : ground_New.f k N W R K = some (.inr (.inr 1)) := by
  unfold ground_New.f
  rw [of_eq k hk]
  unfold ofv
  simp only [Option.bind_some]
  rw [if_neg h]
  rfl
theorem May_eq (N W R K : Int) : quitrentref03_May.f N W R K = some (decide (mayv N W R K)) := by
  unfold quitrentref03_May.f
  by_cases h1 : N < 1
  · rw [if_pos h1]; congr 1; exact (decide_eq_false (by unfold mayv; omega)).symm
  by_cases h2 : N > 1048576
  · rw [if_neg h1, if_pos h2]; congr 1; exact (decide_eq_false (by unfold mayv; omega)).symm
  by_cases h3 : W < 16
  · rw [if_neg h1, if_neg h2, if_pos h3]; congr 1; exact (decide_eq_false (by unfold mayv; omega)).symm
  by_cases h4 : W > 256
  · rw [if_neg h1, if_neg h2, if_neg h3, if_pos h4]; congr 1; exact (decide_eq_false (by unfold mayv; omega)).symm
  by_cases h5 : R < 1
  · rw [if_neg h1, if_neg h2, if_neg h3, if_neg h4, if_pos h5]; congr 1; exact (decide_eq_false (by unfold mayv; omega)).symm
  by_cases h6 : R > 4096
  · rw [if_neg h1, if_neg h2, if_neg h3, if_neg h4, if_neg h5, if_pos h6]; congr 1; exact (decide_eq_false (by unfold mayv; omega)).symm
  by_cases h7 : K < 1
  · rw [if_neg h1, if_neg h2, if_neg h3, if_neg h4, if_neg h5, if_neg h6, if_pos h7]; congr 1; exact (decide_eq_false (by unfold mayv; omega)).symm
  by_cases h8 : K > 65536
  · rw [if_neg h1, if_neg h2, if_neg h3, if_neg h4, if_neg h5, if_neg h6, if_neg h7, if_pos h8]; congr 1; exact (decide_eq_false (by unfold mayv; omega)).symm
  rw [if_neg h1, if_neg h2, if_neg h3, if_neg h4, if_neg h5, if_neg h6, if_neg h7, if_neg h8]
  have := nw_small (N := N) (W := W) (by omega) (by omega) (by omega) (by omega)
  rw [wrap64_id (n := N * W) (by omega) (by omega)]
  congr 1
  exact decide_eq_decide.2 (by unfold mayv; generalize N * W = q at *; omega)
def littlev (N W R : Int) : Prop := N ≤ 300 ∧ W ≤ 64 ∧ R ≤ 40
instance (N W R : Int) : Decidable (littlev N W R) := by unfold littlev; infer_instance
theorem Little_eq (N W R K : Int) : quitrentref05_Little.f N W R K = some (decide (littlev N W R)) := by
  unfold quitrentref05_Little.f
  by_cases h1 : N ≤ 300
  · by_cases h2 : W ≤ 64
    · rw [if_pos h1, if_pos h2]; congr 1; exact decide_eq_decide.2 (by unfold littlev; omega)
    · rw [if_pos h1, if_neg h2]; congr 1; exact (decide_eq_false (by unfold littlev; omega)).symm
  · rw [if_neg h1]; congr 1; exact (decide_eq_false (by unfold littlev; omega)).symm
theorem within_in (i m f : Int) (h0 : 0 ≤ i) (h1 : i < m) : ground_within.f i m f = some (wrap64 (f + i)) := by
  unfold ground_within.f
  rw [if_neg (by omega), if_neg (by omega)]
theorem within_out (i m f : Int) (h : i < 0 ∨ m ≤ i) : ground_within.f i m f = some (-1) := by
  unfold ground_within.f
  by_cases h0 : i < 0
  · rw [if_pos h0]
  · rw [if_neg h0, if_pos (by omega)]
/-- Where a register, a root slot and a block's word are; none: there is none. -/
def regv (i : Int) : Option Nat := if 0 ≤ i ∧ i < 24 then some i.toNat else none
def rootv (R i : Int) : Option Nat := if 0 ≤ i ∧ i < R then some (24 + i).toNat else none
def wordv (N W R b w : Int) : Option Nat := if (0 ≤ b ∧ b < N) ∧ 0 ≤ w ∧ w < W then some (24 + R + b * W + w).toNat else none
def posv : Option Nat → Int
  | some n => n
  | none => -1
theorem reg_eq (i : Int) : ground_reg.f i = some (posv (regv i)) := by
  unfold ground_reg.f regv
  by_cases h : 0 ≤ i ∧ i < 24
  · rw [within_in _ _ _ h.1 h.2, if_pos h, wrap64_id (by omega) (by omega)]
    simp only [Option.bind_some, posv]; congr 1; omega
  · rw [within_out _ _ _ (by omega), if_neg h]; rfl
theorem root_eq (l : List Int) (m N W R K i : Int) (hR : R ≤ 4096) : ground_Ground_root.f l m N W R K i = some (posv (rootv R i)) := by
  unfold ground_Ground_root.f ground_Ground_Conf.f rootv
  simp only [Option.bind_some]
  by_cases h : 0 ≤ i ∧ i < R
  · rw [within_in _ _ _ h.1 h.2, if_pos h, wrap64_id (by omega) (by omega)]
    simp only [Option.bind_some, posv]; congr 1; omega
  · rw [within_out _ _ _ (by omega), if_neg h]; rfl
theorem bw_small {N W R K b : Int} (h : mayv N W R K) (h0 : 0 ≤ b) (h1 : b < N) : 0 ≤ b * W ∧ b * W + W ≤ N * W := by
  have hW : (0 : Int) ≤ W := by unfold mayv at h; omega
  constructor
  · exact Int.mul_nonneg h0 hW
  · have := Int.mul_le_mul_of_nonneg_right (show b + 1 ≤ N by omega) hW
    rw [Int.add_mul, Int.one_mul] at this
    exact this
theorem word_eq (l : List Int) (m N W R K b w : Int) (h : mayv N W R K) : ground_Ground_word.f l m N W R K b w = some (posv (wordv N W R b w)) := by
  unfold ground_Ground_word.f ground_Ground_Conf.f wordv
  simp only [Option.bind_some]
  by_cases hb : 0 ≤ b ∧ b < N
  · rw [within_in _ _ _ hb.1 hb.2]
    simp only [Option.bind_some]
    have hs := bw_small h hb.1 hb.2
    have hn := nw_small h.1 h.2.1 h.2.2.1 h.2.2.2.1
    unfold mayv at h
    rw [wrap64_id (n := 0 + b) (by omega) (by omega), if_neg (by omega), wrap64_id (n := 24 + R) (by omega) (by omega)]
    generalize b * W = q at *
    generalize N * W = t at *
    rw [wrap64_id (n := q) (by omega) (by omega), wrap64_id (n := 24 + R + q) (by omega) (by omega)]
    by_cases hw : 0 ≤ w ∧ w < W
    · rw [within_in _ _ _ hw.1 hw.2, if_pos ⟨hb, hw⟩, wrap64_id (by omega) (by omega)]
      simp only [Option.bind_some, posv]; congr 1; omega
    · rw [within_out _ _ _ (by omega), if_neg (fun h => hw h.2)]; rfl
  · rw [within_out _ _ _ (by omega), if_neg (fun h => hb h.1)]
    rfl
/-- What a ground of so many words does at a place. -/
theorem regv_lt {N W R K : Int} (h : mayv N W R K) {i : Int} {p : Nat} (hp : regv i = some p) : p < sizev N W R ∧ (p : Int) = i ∧ p < 24 := by
  unfold regv at hp
  split at hp
  · cases hp
    have := size_cast h
    have := (nw_small h.1 h.2.1 h.2.2.1 h.2.2.2.1)
    unfold mayv at h
    generalize N * W = q at *
    omega
  · cases hp
theorem rootv_lt {N W R K : Int} (h : mayv N W R K) {i : Int} {p : Nat} (hp : rootv R i = some p) : p < sizev N W R ∧ (p : Int) = 24 + i ∧ (p : Int) < 24 + R ∧ 24 ≤ p := by
  unfold rootv at hp
  split at hp
  · cases hp
    have := size_cast h
    have := (nw_small h.1 h.2.1 h.2.2.1 h.2.2.2.1)
    unfold mayv at h
    generalize N * W = q at *
    omega
  · cases hp
theorem wordv_lt {N W R K : Int} (h : mayv N W R K) {b w : Int} {p : Nat} (hp : wordv N W R b w = some p) : p < sizev N W R ∧ (p : Int) = 24 + R + b * W + w ∧ 24 + R ≤ (p : Int) ∧ 0 ≤ w ∧ w < W ∧ 0 ≤ b ∧ b < N := by
  unfold wordv at hp
  split at hp
  · next hc =>
    cases hp
    have := size_cast h
    have hs := bw_small h hc.1.1 hc.1.2
    unfold mayv at h
    generalize b * W = q at *
    generalize N * W = t at *
    omega
  · cases hp
/-- What is got at a place, and the meter then. -/
def sgetv (l : List Int) (m : Int) (p : Option Nat) : Int × Int := match p with
  | some n => (rd l (n : Int), IntKind.u64.wrap (m + 1))
  | none => (0, m)
def sputv (l : List Int) (m : Int) (p : Option Nat) (v : Int) : Bool × Int × List Int := match p with
  | some n => (true, IntKind.u64.wrap (m + 1), l.set n v)
  | none => (false, m, l)
theorem sget_eq (l : List Int) (m : Int) (p : Option Nat) (hp : ∀ n, p = some n → n < l.length) : store_Store_Get.f l m (posv p) = some (sgetv l m p) := by
  rw [get_eq]
  cases p with
  | none => rw [if_neg (by simp [posv])]; rfl
  | some n => have := hp n rfl; rw [if_pos (by simp [posv]; omega)]; rfl
theorem sput_eq (l : List Int) (m : Int) (p : Option Nat) (v : Int) (hp : ∀ n, p = some n → n < l.length) : store_Store_Put.f l m (posv p) v = some (sputv l m p v) := by
  rw [put_eq]
  cases p with
  | none => rw [if_neg (by simp [posv])]; rfl
  | some n => have := hp n rfl; rw [if_pos (by simp [posv]; omega)]; simp [sputv, posv]
/-- A ground that may be: so many words, each of 32 bits. -/
structure OK (N W R K : Int) (l : List Int) : Prop where
  may : mayv N W R K
  len : l.length = sizev N W R
  u32 : ∀ i : Nat, 0 ≤ rd l (i : Int) ∧ rd l (i : Int) < 4294967296
theorem rd_out (l : List Int) (i : Nat) (h : l.length ≤ i) : rd l (i : Int) = 0 := by
  simp [rd, List.getD_eq_getElem?_getD, List.getElem?_eq_none h]
theorem rd_setN (l : List Int) (i j : Nat) (x : Int) (h : i < l.length) : rd (l.set i x) (j : Int) = if i = j then x else rd l (j : Int) := by
  have := rd_set l (i : Int) (j : Int) x (by omega) (by omega) (by omega)
  simp only [Int.toNat_natCast] at this
  rw [this]
  by_cases h : i = j
  · rw [if_pos (by omega), if_pos h]
  · rw [if_neg (by omega), if_neg h]
theorem OK.set {N W R K : Int} {l : List Int} (h : OK N W R K l) (n : Nat) (v : Int) (h0 : 0 ≤ v) (h1 : v < 4294967296) : OK N W R K (l.set n v) := by
  refine ⟨h.may, by rw [List.length_set]; exact h.len, fun i => ?_⟩
  rcases Nat.lt_or_ge n l.length with hn | hn
  · rw [rd_setN l n i v hn]
    split
    · exact ⟨h0, h1⟩
    · exact h.u32 i
  · rw [List.set_eq_of_length_le hn]; exact h.u32 i
theorem OK.zero {N W R K : Int} (h : mayv N W R K) : OK N W R K (List.replicate (sizev N W R) 0) := by
  refine ⟨h, by simp, fun i => ?_⟩
  have : rd (List.replicate (sizev N W R) (0 : Int)) (i : Int) = 0 := by
    simp only [rd, List.getD_eq_getElem?_getD, List.getElem?_replicate, Int.toNat_natCast]
    split <;> rfl
  rw [this]; decide
theorem OK.small {N W R K : Int} {l : List Int} (h : OK N W R K l) : l.length ≤ 8388608 := by
  have := size_cast h.may
  have := mayW h.may
  have := h.len
  omega
theorem Reg_eq {N W R K : Int} {l : List Int} (h : OK N W R K l) (m i : Int) : ground_Ground_Reg.f l m N W R K i = some (sgetv l m (regv i)) := by
  unfold ground_Ground_Reg.f ground_Ground_all.f
  simp only [Option.bind_some]
  rw [reg_eq]
  simp only [Option.bind_some]
  rw [sget_eq l m _ (fun n hn => by rw [h.len]; exact (regv_lt h.may hn).1)]
  simp only [Option.bind_some]
  congr 1
  cases hr : regv i with
  | none => show (wrap64 0, m) = (0, m); rw [w0]
  | some n => have := h.u32 n; simp only [sgetv]; rw [wrap64_id (by omega) (by omega)]
theorem Root_eq {N W R K : Int} {l : List Int} (h : OK N W R K l) (m i : Int) : ground_Ground_Root.f l m N W R K i = some (sgetv l m (rootv R i)) := by
  unfold ground_Ground_Root.f ground_Ground_all.f
  simp only [Option.bind_some]
  rw [root_eq l m N W R K i (by have := h.may; unfold mayv at this; omega)]
  simp only [Option.bind_some]
  rw [sget_eq l m _ (fun n hn => by rw [h.len]; exact (rootv_lt h.may hn).1)]
  simp only [Option.bind_some]
  congr 1
  cases hr : rootv R i with
  | none => show (wrap64 0, m) = (0, m); rw [w0]
  | some n => have := h.u32 n; simp only [sgetv]; rw [wrap64_id (by omega) (by omega)]
theorem Word_eq {N W R K : Int} {l : List Int} (h : OK N W R K l) (m b w : Int) : ground_Ground_Word.f l m N W R K b w = some (sgetv l m (wordv N W R b w)) := by
  unfold ground_Ground_Word.f ground_Ground_all.f
  simp only [Option.bind_some]
  rw [word_eq l m N W R K b w h.may]
  simp only [Option.bind_some]
  rw [sget_eq l m _ (fun n hn => by rw [h.len]; exact (wordv_lt h.may hn).1)]
  rfl
theorem set_eq {N W R K : Int} {l : List Int} (m : Int) (p : Option Nat) (hp : ∀ n, p = some n → n < l.length) (v : Int) : ground_Ground_set.f l m N W R K (posv p) v = some (if 0 ≤ v ∧ v < 4294967296 then sputv l m p v else (false, m, l)) := by
  unfold ground_Ground_set.f ground_Ground_all.f
  by_cases h0 : v < 0
  · rw [if_pos h0, if_neg (by omega)]
  · by_cases h1 : v > 4294967295
    · rw [if_neg h0, if_pos h1, if_neg (by omega)]
    · rw [if_neg h0, if_neg h1, if_pos (by omega)]
      simp only [Option.bind_some]
      rw [show v % 4294967296 = v by omega, sput_eq l m p v hp]
      rfl
theorem SetReg_eq {N W R K : Int} {l : List Int} (h : OK N W R K l) (m i v : Int) : ground_Ground_SetReg.f l m N W R K i v = some (if 0 ≤ v ∧ v < 4294967296 then sputv l m (regv i) v else (false, m, l)) := by
  unfold ground_Ground_SetReg.f
  rw [reg_eq]
  simp only [Option.bind_some]
  rw [set_eq m _ (fun n hn => by rw [h.len]; exact (regv_lt h.may hn).1)]
  rfl
theorem SetRoot_eq {N W R K : Int} {l : List Int} (h : OK N W R K l) (m i v : Int) : ground_Ground_SetRoot.f l m N W R K i v = some (if 0 ≤ v ∧ v < 4294967296 then sputv l m (rootv R i) v else (false, m, l)) := by
  unfold ground_Ground_SetRoot.f
  rw [root_eq l m N W R K i (by have := h.may; unfold mayv at this; omega)]
  simp only [Option.bind_some]
  rw [set_eq m _ (fun n hn => by rw [h.len]; exact (rootv_lt h.may hn).1)]
  rfl
theorem SetWord_eq {N W R K : Int} {l : List Int} (h : OK N W R K l) (m b w v : Int) : ground_Ground_SetWord.f l m N W R K b w v = some (sputv l m (wordv N W R b w) v) := by
  unfold ground_Ground_SetWord.f ground_Ground_all.f
  simp only [Option.bind_some]
  rw [word_eq l m N W R K b w h.may]
  simp only [Option.bind_some]
  rw [sput_eq l m _ v (fun n hn => by rw [h.len]; exact (wordv_lt h.may hn).1)]
  rfl
theorem Words_eq {N W R K : Int} {l : List Int} (h : l.length ≤ 8388608) (m : Int) : ground_Ground_Words.f l m N W R K = some l := by
  unfold ground_Ground_Words.f ground_Ground_all.f
  simp only [Option.bind_some]
  rw [words_eq l m (by omega)]
  rfl
theorem Meter_eq (l : List Int) (m N W R K : Int) : ground_Ground_Meter.f l m N W R K = some m := rfl
theorem begunL (k : Nat) (hk : 300 ≤ k) : quitrentlaw05_begun.f k = some true := by
  have e1 := gnew_may k (by omega) 2 16 3 1 (by unfold mayv; decide)
  unfold quitrentlaw05_begun.f
  rw [e1]
  decide +kernel
theorem RegAt_eq (i : Int) : quitrentref05_RegAt.f i = some (posv (regv i)) := by
  unfold quitrentref05_RegAt.f regv
  by_cases h0 : i < 0
  · rw [if_pos h0, if_neg (by omega)]; rfl
  · by_cases h1 : i ≥ 24
    · rw [if_neg h0, if_pos h1, if_neg (by omega)]; rfl
    · rw [if_neg h0, if_neg h1, if_pos (by omega)]; simp only [posv]; congr 1; omega
theorem RootAt_eq (N W R K i : Int) (hR : R ≤ 4096) : quitrentref05_RootAt.f N W R K i = some (posv (rootv R i)) := by
  unfold quitrentref05_RootAt.f rootv
  by_cases h0 : i < 0
  · rw [if_pos h0, if_neg (by omega)]; rfl
  · by_cases h1 : i ≥ R
    · rw [if_neg h0, if_pos h1, if_neg (by omega)]; rfl
    · rw [if_neg h0, if_neg h1, if_pos (by omega), wrap64_id (by omega) (by omega)]; simp only [posv]; congr 1; omega
theorem WordAt_eq {N W R K : Int} (h : mayv N W R K) (b w : Int) : quitrentref05_WordAt.f N W R K b w = some (posv (wordv N W R b w)) := by
  unfold quitrentref05_WordAt.f wordv
  by_cases h0 : b < 0
  · rw [if_pos h0, if_neg (by omega)]; rfl
  by_cases h1 : b ≥ N
  · rw [if_neg h0, if_pos h1, if_neg (by omega)]; rfl
  by_cases h2 : w < 0
  · rw [if_neg h0, if_neg h1, if_pos h2, if_neg (by omega)]; rfl
  by_cases h3 : w ≥ W
  · rw [if_neg h0, if_neg h1, if_neg h2, if_pos h3, if_neg (by omega)]; rfl
  rw [if_neg h0, if_neg h1, if_neg h2, if_neg h3, if_pos (by omega)]
  have hs := bw_small h (b := b) (by omega) (by omega)
  have hn := nw_small h.1 h.2.1 h.2.2.1 h.2.2.2.1
  unfold mayv at h
  generalize b * W = q at *
  generalize N * W = t at *
  rw [wrap64_id (n := 24 + R) (by omega) (by omega), wrap64_id (n := q) (by omega) (by omega), wrap64_id (n := 24 + R + q) (by omega) (by omega), wrap64_id (by omega) (by omega)]
  simp only [posv]; congr 1; omega
theorem rhas_eq (l : List Int) (m a : Int) : quitrentref04_Store_Has.f l m a = some (decide (0 ≤ a ∧ a < (l.length : Int))) := by
  unfold quitrentref04_Store_Has.f
  by_cases h : a ≥ 0
  · rw [if_pos h]; congr 1; exact decide_eq_decide.2 (by omega)
  · rw [if_neg h]; congr 1; exact (decide_eq_false (by omega)).symm
theorem rget_eq (l : List Int) (m : Int) (p : Option Nat) (hp : ∀ n, p = some n → n < l.length) : quitrentref04_Store_Get.f l m (posv p) = some (sgetv l m p) := by
  unfold quitrentref04_Store_Get.f
  rw [rhas_eq]
  simp only [Option.bind_some, decide_eq_true_eq]
  cases p with
  | none => rw [if_neg (by simp [posv])]; rfl
  | some n => have := hp n rfl; rw [if_pos (by simp [posv]; omega), if_pos (by simp [posv]), if_pos (by simp [posv]; omega)]; rfl
theorem rput_eq (l : List Int) (m : Int) (p : Option Nat) (v : Int) (hp : ∀ n, p = some n → n < l.length) : quitrentref04_Store_Put.f l m (posv p) v = some (sputv l m p v) := by
  unfold quitrentref04_Store_Put.f
  rw [rhas_eq]
  simp only [Option.bind_some, decide_eq_true_eq]
  cases p with
  | none => rw [if_neg (by simp [posv])]; rfl
  | some n => have := hp n rfl; rw [if_pos (by simp [posv]; omega), if_pos (by simp [posv]), if_pos (by simp [posv]; omega)]; simp [sputv, posv]
theorem rset_eq (N W R K : Int) (l : List Int) (m : Int) (p : Option Nat) (v : Int) (hp : ∀ n, p = some n → n < l.length) : quitrentref05_Ground_Set.f N W R K l m (posv p) v = some (if 0 ≤ v ∧ v < 4294967296 then sputv l m p v else (false, m, l)) := by
  unfold quitrentref05_Ground_Set.f
  by_cases hn : posv p < 0
  · rw [if_pos hn]
    cases p with
    | none => simp [sputv]
    | some n => simp only [posv] at hn; omega
  rw [if_neg hn]
  by_cases h0 : v < 0
  · rw [if_pos h0, if_neg (by omega)]
  by_cases h1 : v > 4294967295
  · rw [if_neg h0, if_pos h1, if_neg (by omega)]
  rw [if_neg h0, if_neg h1, if_pos (by omega), show v % 4294967296 = v by omega, rput_eq l m p v hp]
  rfl
def peekv (l : List Int) (p : Option Nat) : Int := match p with
  | some n => rd l (n : Int)
  | none => 0
theorem speek_eq (l : List Int) (m : Int) (p : Option Nat) (hp : ∀ n, p = some n → n < l.length) : store_Store_Peek.f l m (posv p) = some (peekv l p) := by
  rw [peek_eq]
  cases p with
  | none => rw [if_neg (by simp [posv])]; rfl
  | some n => have := hp n rfl; rw [if_pos (by simp [posv]; omega)]; rfl
theorem see_eq (N W R K : Int) (l : List Int) (m : Int) (p : Option Nat) (hp : ∀ n, p = some n → n < l.length) : quitrentref05_Ground_See.f N W R K l m (posv p) = some (wrap64 (peekv l p)) := by
  unfold quitrentref05_Ground_See.f
  cases p with
  | none => rw [if_pos (by simp [posv]), show peekv l none = 0 from rfl, w0]
  | some n => have := hp n rfl; rw [if_neg (by simp [posv]), if_pos (by simp [posv]), if_pos (by simp [posv]; omega)]; rfl
theorem regp {N W R K : Int} {l : List Int} (h : OK N W R K l) (i : Int) : ∀ n, regv i = some n → n < l.length := fun n hn => by rw [h.len]; exact (regv_lt h.may hn).1
theorem rootp {N W R K : Int} {l : List Int} (h : OK N W R K l) (i : Int) : ∀ n, rootv R i = some n → n < l.length := fun n hn => by rw [h.len]; exact (rootv_lt h.may hn).1
theorem wordp {N W R K : Int} {l : List Int} (h : OK N W R K l) (b w : Int) : ∀ n, wordv N W R b w = some n → n < l.length := fun n hn => by rw [h.len]; exact (wordv_lt h.may hn).1
theorem SeeReg_eq {N W R K : Int} {l : List Int} (h : OK N W R K l) (m i : Int) : ground_Ground_SeeReg.f l m N W R K i = some (wrap64 (peekv l (regv i))) := by
  unfold ground_Ground_SeeReg.f ground_Ground_all.f
  simp only [Option.bind_some]
  rw [reg_eq]
  simp only [Option.bind_some]
  rw [speek_eq l m _ (regp h i)]
  rfl
theorem SeeRoot_eq {N W R K : Int} {l : List Int} (h : OK N W R K l) (m i : Int) : ground_Ground_SeeRoot.f l m N W R K i = some (wrap64 (peekv l (rootv R i))) := by
  unfold ground_Ground_SeeRoot.f ground_Ground_all.f
  simp only [Option.bind_some]
  rw [root_eq l m N W R K i (by have := h.may; unfold mayv at this; omega)]
  simp only [Option.bind_some]
  rw [speek_eq l m _ (rootp h i)]
  rfl
theorem SeeWord_eq {N W R K : Int} {l : List Int} (h : OK N W R K l) (m b w : Int) : ground_Ground_SeeWord.f l m N W R K b w = some (peekv l (wordv N W R b w)) := by
  unfold ground_Ground_SeeWord.f ground_Ground_all.f
  simp only [Option.bind_some]
  rw [word_eq l m N W R K b w h.may]
  simp only [Option.bind_some]
  rw [speek_eq l m _ (wordp h b w)]
  rfl
theorem OK.get {N W R K : Int} {l : List Int} (h : OK N W R K l) (m : Int) (p : Option Nat) : 0 ≤ (sgetv l m p).1 ∧ (sgetv l m p).1 < 4294967296 := by
  cases p with
  | none => show (0 : Int) ≤ 0 ∧ (0 : Int) < 4294967296; decide
  | some n => exact h.u32 n
theorem OK.put {N W R K : Int} {l : List Int} (h : OK N W R K l) (m : Int) (p : Option Nat) {v : Int} (hv : 0 ≤ v ∧ v < 4294967296) : OK N W R K (sputv l m p v).2.2 := by
  cases p with
  | none => exact h
  | some n => exact h.set n v hv.1 hv.2
theorem OK.put' {N W R K : Int} {l : List Int} (h : OK N W R K l) (m : Int) (p : Option Nat) (v : Int) : OK N W R K (if 0 ≤ v ∧ v < 4294967296 then sputv l m p v else (false, m, l)).2.2 := by
  split
  · next hv => exact h.put m p hv
  · exact h
theorem wipe_out {N W R K : Int} {l : List Int} (h : OK N W R K l) {b : Int} (hb : ¬ (0 ≤ b ∧ b < N)) (m : Int) (w0 : List Int) : ∀ (d k w : Nat) (n : Int), w + d = W.toNat → d < k → ground_Ground_Wipe.lo0 k N W R K b (N, W, R, K) n (w : Int) l m = some (n, l, m) := by
  have hW := h.may.2.2.1
  have hW' := h.may.2.2.2.1
  intro d
  induction d with
  | zero =>
    intro k w n hw hk
    obtain ⟨k, rfl⟩ : ∃ q, k = q + 1 := ⟨k - 1, by omega⟩
    rw [ground_Ground_Wipe.lo0, if_neg (by show ¬ (w : Int) < W; omega)]
  | succ d ih =>
    intro k w n hw hk
    obtain ⟨k, rfl⟩ : ∃ q, k = q + 1 := ⟨k - 1, by omega⟩
    rw [ground_Ground_Wipe.lo0, if_pos (by show (w : Int) < W; omega), SetWord_eq h]
    have e : wordv N W R b (w : Int) = none := by unfold wordv; rw [if_neg (fun q => hb q.1)]
    rw [e]
    simp only [Option.bind_some, sputv, Bool.false_eq_true, if_false]
    rw [next_i w (by omega), ih k (w + 1) n (by omega) (by omega)]
theorem wipe_in {N W R K : Int} {b : Int} (hb : 0 ≤ b ∧ b < N) : ∀ (d k w : Nat) (n : Int) (l : List Int) (m : Int), OK N W R K l → w + d = W.toNat → d < k → n + d < 100000 → 0 ≤ n →
    ∃ l' m', ground_Ground_Wipe.lo0 k N W R K b (N, W, R, K) n (w : Int) l m = some (n + (d : Int), l', m') ∧ quitrentref05_Ground_Wipe.lo0 k N W R K b (w : Int) l m = some (l', m') ∧ OK N W R K l' := by
  intro d
  induction d with
  | zero =>
    intro k w n l m h hw hk hn hn0
    have hW := h.may.2.2.1
    have hW' := h.may.2.2.2.1
    obtain ⟨k, rfl⟩ : ∃ q, k = q + 1 := ⟨k - 1, by omega⟩
    refine ⟨l, m, ?_, ?_, h⟩
    · rw [ground_Ground_Wipe.lo0, if_neg (by show ¬ (w : Int) < W; omega)]; simp
    · rw [quitrentref05_Ground_Wipe.lo0, if_neg (by omega)]
  | succ d ih =>
    intro k w n l m h hw hk hn hn0
    have hW := h.may.2.2.1
    have hW' := h.may.2.2.2.1
    obtain ⟨k, rfl⟩ : ∃ q, k = q + 1 := ⟨k - 1, by omega⟩
    obtain ⟨p, e⟩ : ∃ p, wordv N W R b (w : Int) = some p := by
      unfold wordv
      exact ⟨_, if_pos ⟨hb, by omega⟩⟩
    obtain ⟨l', m', e1, e2, h'⟩ := ih k (w + 1) (n + 1) (l.set p 0) (IntKind.u64.wrap (m + 1)) (h.set p 0 (by decide) (by decide)) (by omega) (by omega) (by omega) (by omega)
    refine ⟨l', m', ?_, ?_, h'⟩
    · rw [ground_Ground_Wipe.lo0, if_pos (by show (w : Int) < W; omega), SetWord_eq h, e]
      simp only [Option.bind_some, sputv, if_true]
      rw [next_i w (by omega), wrap64_id (n := n + 1) (by omega) (by omega), e1]
      congr 2; omega
    · rw [quitrentref05_Ground_Wipe.lo0, if_pos (by omega), WordAt_eq h.may, e]
      simp only [Option.bind_some]
      rw [rput_eq l m (some p) 0 (by rw [← e]; exact wordp h b _)]
      simp only [Option.bind_some, sputv]
      rw [next_i w (by omega), e2]
theorem wipe_eq {N W R K : Int} {l : List Int} (h : OK N W R K l) (m b : Int) (k : Nat) (hk : 300 ≤ k) : ∃ n m' l', ground_Ground_Wipe.f k l m N W R K b = some (n, m', l') ∧ quitrentref05_Ground_Wipe.f k N W R K l m b = some (n, m', l') ∧ OK N W R K l' := by
  have hW := h.may.2.2.1
  have hW' := h.may.2.2.2.1
  unfold ground_Ground_Wipe.f quitrentref05_Ground_Wipe.f ground_Ground_Conf.f
  rw [WordAt_eq h.may]
  simp only [Option.bind_some]
  by_cases hb : 0 ≤ b ∧ b < N
  · obtain ⟨l', m', e1, e2, h'⟩ := wipe_in hb W.toNat k 0 0 l m h (by omega) (by omega) (by omega) (by omega)
    have e : wordv N W R b 0 = some (24 + R + b * W + 0).toNat := by unfold wordv; rw [if_pos ⟨hb, by omega⟩]
    refine ⟨W, m', l', ?_, ?_, h'⟩
    · have e1' : ground_Ground_Wipe.lo0 k N W R K b (N, W, R, K) 0 0 l m = some (0 + (W.toNat : Int), l', m') := e1
      rw [e1']
      simp only [Option.bind_some]
      congr 2; omega
    · have e2' : quitrentref05_Ground_Wipe.lo0 k N W R K b 0 l m = some (l', m') := e2
      rw [e, if_neg (by simp [posv]; omega), e2']
      rfl
  · have e : wordv N W R b 0 = none := by unfold wordv; rw [if_neg (fun q => hb q.1)]
    have e1 : ground_Ground_Wipe.lo0 k N W R K b (N, W, R, K) 0 0 l m = some (0, l, m) := wipe_out h hb m l W.toNat k 0 0 (by omega) (by omega)
    refine ⟨0, m, l, ?_, ?_, h⟩
    · rw [e1]; rfl
    · rw [e, if_pos (by decide)]
theorem both_eq {X : Bool × Int × List Int} : (if X.1 = true then (if X.1 = true then (some (true, X.2.1, X.2.2, X.2.1, X.2.2)) else (some (false, X.2.1, X.2.2, X.2.1, X.2.2))) else (if X.1 = true then (some (false, X.2.1, X.2.2, X.2.1, X.2.2)) else (some (true, X.2.1, X.2.2, X.2.1, X.2.2)))) = some (true, X.2.1, X.2.2, X.2.1, X.2.2) := by
  by_cases h : X.1 = true
  · rw [if_pos h, if_pos h]
  · rw [if_neg h, if_neg h]
theorem do_eq {N W R K : Int} {l : List Int} (h : OK N W R K l) (m : Int) (k : Nat) (hk : 300 ≤ k) (kd i w v : Int) :
    ∃ m' l', quitrentlaw05_do.f k l m N W R K N W R K l m kd i w v = some (true, m', l', m', l') ∧ OK N W R K l' := by
  unfold quitrentlaw05_do.f
  have hR : R ≤ 4096 := by have := h.may; unfold mayv at this; omega
  rw [RegAt_eq, RootAt_eq N W R K i hR, WordAt_eq h.may]
  simp only [Option.bind_some]
  by_cases h0 : kd = 0
  · rw [if_pos h0, Reg_eq h, rget_eq l m _ (regp h i)]
    simp only [Option.bind_some]
    have := h.get m (regv i)
    exact ⟨_, _, by rw [wrap64_id (by omega) (by omega), beq_self_eq_true], h⟩
  rw [if_neg h0]
  by_cases h1 : kd = 1
  · rw [if_pos h1, SetReg_eq h, rset_eq N W R K l m _ v (regp h i)]
    simp only [Option.bind_some]
    exact ⟨_, _, both_eq, h.put' m _ v⟩
  rw [if_neg h1]
  by_cases h2 : kd = 2
  · rw [if_pos h2, Root_eq h, rget_eq l m _ (rootp h i)]
    simp only [Option.bind_some]
    have := h.get m (rootv R i)
    exact ⟨_, _, by rw [wrap64_id (by omega) (by omega), beq_self_eq_true], h⟩
  rw [if_neg h2]
  by_cases h3 : kd = 3
  · rw [if_pos h3, SetRoot_eq h, rset_eq N W R K l m _ v (rootp h i)]
    simp only [Option.bind_some]
    exact ⟨_, _, both_eq, h.put' m _ v⟩
  rw [if_neg h3]
  by_cases h4 : kd = 4
  · rw [if_pos h4, Word_eq h, rget_eq l m _ (wordp h i w)]
    simp only [Option.bind_some]
    exact ⟨_, _, by rw [beq_self_eq_true], h⟩
  rw [if_neg h4]
  by_cases h5 : kd = 5
  · have hv : 0 ≤ IntKind.u64.wrap v % 4294967296 ∧ IntKind.u64.wrap v % 4294967296 < 4294967296 := by omega
    rw [if_pos h5, SetWord_eq h, rset_eq N W R K l m _ _ (wordp h i w), if_pos hv]
    simp only [Option.bind_some]
    exact ⟨_, _, both_eq, h.put m _ hv⟩
  rw [if_neg h5]
  by_cases h6 : kd = 6
  · obtain ⟨n, m', l', e1, e2, h'⟩ := wipe_eq h m i k hk
    rw [if_pos h6, e1, e2]
    simp only [Option.bind_some]
    exact ⟨_, _, by rw [beq_self_eq_true], h'⟩
  rw [if_neg h6, SeeReg_eq h, see_eq N W R K l m _ (regp h i)]
  simp only [Option.bind_some, if_true]
  rw [SeeRoot_eq h, see_eq N W R K l m _ (rootp h i)]
  simp only [Option.bind_some, if_true]
  rw [SeeWord_eq h, see_eq N W R K l m _ (wordp h i w)]
  simp only [Option.bind_some]
  exact ⟨_, _, by rw [beq_self_eq_true], h⟩
theorem plays {N W R K : Int} (L : List (Int × Int × Int × Int)) (hL : L.length ≤ 200) (t s : List Int) : ∀ (d k j : Nat) (l : List Int) (m : Int), OK N W R K l → j + d = L.length → d + 300 < k →
    ∃ l' m', quitrentlaw05_GroundPlays.lo0 k L (N, W, R, K, t) (N, W, R, K, s) (j : Int) l l m m = some (.out (l', l', m', m')) ∧ OK N W R K l' := by
  intro d
  induction d with
  | zero =>
    intro k j l m h hj hk
    obtain ⟨k, rfl⟩ : ∃ q, k = q + 1 := ⟨k - 1, by omega⟩
    exact ⟨l, m, by rw [quitrentlaw05_GroundPlays.lo0, if_neg (by omega)], h⟩
  | succ d ih =>
    intro k j l m h hj hk
    obtain ⟨k, rfl⟩ : ∃ q, k = q + 1 := ⟨k - 1, by omega⟩
    obtain ⟨m1, l1, e, h1⟩ := do_eq h m k (by omega) (rdOf (0, 0, 0, 0) L (j : Int)).1 (rdOf (0, 0, 0, 0) L (j : Int)).2.1 (rdOf (0, 0, 0, 0) L (j : Int)).2.2.1 (rdOf (0, 0, 0, 0) L (j : Int)).2.2.2
    obtain ⟨l', m', e', h'⟩ := ih k (j + 1) l1 m1 h1 (by omega) (by omega)
    refine ⟨l', m', ?_, h'⟩
    rw [quitrentlaw05_GroundPlays.lo0, if_pos (by omega), if_pos (by omega)]
    simp only []
    rw [e]
    simp only [Option.bind_some, if_true, Meter_eq]
    rw [next_i j (by omega)]
    exact e'
theorem GroundPlays (N W R K : Int) (L : List (Int × Int × Int × Int)) (_ : (Lit.int .i64 N).wf = true) (_ : (Lit.int .i64 W).wf = true) (_ : (Lit.int .i64 R).wf = true) (_ : (Lit.int .i64 K).wf = true) (_ : L.length ≤ 9223372036854775807)
    (_ : ∀ x ∈ L, (Lit.int .u8 x.1).wf = true ∧ (Lit.int .i64 x.2.1).wf = true ∧ (Lit.int .i64 x.2.2.1).wf = true ∧ (Lit.int .i64 x.2.2.2).wf = true) : ∃ k, quitrentlaw05_GroundPlays.f k N W R K L = some true := by
  have hb := begunL 8388700 (by decide)
  have hg0 : 200 ≤ 8388700 := by decide
  have hg1 : 201 + 300 < 8388700 := by decide
  have hg2 : 8388608 < 8388700 := by decide
  generalize 8388700 = k at *
  refine ⟨k, ?_⟩
  unfold quitrentlaw05_GroundPlays.f
  by_cases h : mayv N W R K
  · rw [gnew_may k hg0 N W R K h]
    simp only [Option.bind_some, Sum.elim_inr, Sum.elim_inl, May_eq, Little_eq, decide_eq_true_eq]
    rw [if_pos h]
    by_cases h2 : (L.length : Int) > 200
    · rw [if_pos h2, hb]; rfl
    rw [if_neg h2]
    by_cases h3 : littlev N W R
    · rw [if_pos h3]
      simp only [ground_Ground_Conf.f, Option.bind_some, if_true]
      have en : quitrentref05_New.f N W R K = some (N, W, R, K, List.replicate (sizev N W R) 0) := by
        have hn := nw_small h.1 h.2.1 h.2.2.1 h.2.2.2.1
        have hw := mayW h
        have hm := h
        unfold mayv at hm
        unfold quitrentref05_New.f quitrentref04_New.f sizev
        generalize N * W = q at *
        rw [wrap64_id (n := 24 + R) (by omega) (by omega), wrap64_id (n := q) (by omega) (by omega), wrap64_id (n := 24 + R + q) (by omega) (by omega)]
        unfold M.mkLen
        rw [if_pos (by omega)]
        rfl
      rw [en]
      simp only [Option.bind_some]
      obtain ⟨l', m', e, h'⟩ := plays L (by omega) (List.replicate (sizev N W R) 0) (List.replicate (sizev N W R) 0) L.length k 0 _ 0 (OK.zero h) (by omega) (by omega)
      have e' : quitrentlaw05_GroundPlays.lo0 k L (N, W, R, K, List.replicate (sizev N W R) 0) (N, W, R, K, List.replicate (sizev N W R) 0) 0 (List.replicate (sizev N W R) 0) (List.replicate (sizev N W R) 0) 0 0 = some (.out (l', l', m', m')) := e
      rw [e']
      simp only [Option.bind_some, M.Lp.elim]
      rw [hb]
      simp only [Option.bind_some, if_true]
      rw [Words_eq (by have := h'.small; omega)]
      simp only [Option.bind_some]
      rw [same_eq k l' l' (by have := h'.small; omega) (by have := h'.small; omega)]
      simp
    · rw [if_neg h3, hb]; rfl
  · rw [gnew_not k hg0 N W R K h]
    simp only [Option.bind_some, Sum.elim_inr, Sum.elim_inl, May_eq, Little_eq, decide_eq_true_eq]
    rw [if_neg h]
    simp only [if_true]
    rw [hb]; rfl
end Go.Proofs.Ytobeonkddamnoaa.V
