/- The laws of the group WN on the plain functions. No condition. -/
import Derived.Test.YtgkpcboaiaiahaaMWN
import Derived.DataShut
import Derived.Laws.Bits64
import Derived.Laws.BitsLemmas
import Derived.RowKit
import Derived.KernelRfl
namespace Go.Proofs.Ytgkpcboaiaiahaa.V
open Go.RowKit Go.Proofs.Ytgkpcboaiaiahaa.C Go.Proofs.Ytgkpcboaiaiahaa.M Go.Proofs.YtgkpcboaiaiahaaW.PrintWords
set_option linter.unusedVariables false
set_option linter.unusedSimpArgs false
theorem wrap64_id {n : Int} (h0 : -9223372036854775808 ≤ n) (h1 : n ≤ 9223372036854775807) : wrap64 n = n := by unfold wrap64; omega
/-- What a number counts as. -/
def cnt (n : Int) : Int := max 0 (min n 1125899906842624)
def byv (n : Int) : Int := max 1 (cnt n)
theorem cnt_bounds (n : Int) : 0 ≤ cnt n ∧ cnt n ≤ 1125899906842624 := by unfold cnt; omega
theorem byv_bounds (n : Int) : 1 ≤ byv n ∧ byv n ≤ 1125899906842624 := by have := cnt_bounds n; unfold byv; omega
theorem cnt_id {n : Int} (h : 0 ≤ n) (h' : n ≤ 1125899906842624) : cnt n = n := by unfold cnt; omega
theorem clamp_eq (n lo hi : Int) : ratio_Clamp.f n lo hi = some (if n > hi then hi else if n < lo then lo else n) := by
  unfold ratio_Clamp.f; split <;> (try split) <;> simp_all
theorem counts_eq (n : Int) : ratio_counts.f n = some (cnt n) := by
  unfold ratio_counts.f; rw [clamp_eq]; simp only [Option.bind_some, cnt]
  congr 1
  by_cases h1 : n > 1125899906842624
  · rw [if_pos h1]; omega
  · rw [if_neg h1]
    by_cases h2 : n < 0
    · rw [if_pos h2]; omega
    · rw [if_neg h2]; omega
theorem by_eq (n : Int) : ratio_by.f n = some (byv n) := by
  unfold ratio_by.f byv; rw [counts_eq]; simp only [Option.bind_some]
  by_cases h : cnt n < 1
  · rw [if_pos h]; congr 1; omega
  · rw [if_neg h]; congr 1; omega
theorem tdiv_pos {a b : Int} (h : 0 ≤ a) : Int.tdiv a b = a / b := Int.tdiv_eq_ediv_of_nonneg h
def upv (a b : Int) : Int := (cnt a + byv b - 1) / byv b
theorem div_le {a b : Int} (h : 0 ≤ a) (hb : 1 ≤ b) : 0 ≤ a / b ∧ a / b ≤ a := ⟨Int.ediv_nonneg h (by omega), Int.ediv_le_self _ h⟩
theorem up_eq (a b : Int) : ratio_Up.f a b = some (upv a b) := by
  have ha := cnt_bounds a; have hb := byv_bounds b
  have hd := div_le (a := cnt a + byv b - 1) (by omega) hb.1
  unfold ratio_Up.f upv; simp only [counts_eq, by_eq, Option.bind_some]
  rw [if_neg (by omega), wrap64_id (n := cnt a + byv b) (by omega) (by omega), wrap64_id (n := cnt a + byv b - 1) (by omega) (by omega), tdiv_pos (by omega), wrap64_id (by omega) (by omega)]
theorem up_split {x y : Int} (hy : 1 ≤ y) : (x + y - 1) / y = if x % y > 0 then x / y + 1 else x / y := by
  have e := Int.mul_ediv_add_emod x y
  have h0 := Int.emod_nonneg x (show y ≠ 0 by omega)
  have h1 := Int.emod_lt_of_pos x (show 0 < y by omega)
  split
  · rw [Int.ediv_eq_iff_of_pos (by omega)]
    have : x / y * y = y * (x / y) := Int.mul_comm _ _
    constructor
    · rw [Int.add_mul]; omega
    · rw [Int.add_mul]; omega
  · rw [Int.ediv_eq_iff_of_pos (by omega)]
    have : x / y * y = y * (x / y) := Int.mul_comm _ _
    constructor <;> omega
/-! ### lists -/
theorem rd_at (l : List Int) (j : Nat) (h : j < l.length) : rd l (j : Int) = l[j] := by
  simp [rd, List.getD_eq_getElem?_getD, List.getElem?_eq_getElem h]
theorem drop_at (l : List Int) (j : Nat) (h : j < l.length) : l.drop j = rd l (j : Int) :: l.drop (j + 1) := by
  rw [rd_at l j h]; exact List.drop_eq_getElem_cons h
theorem next_at (j : Nat) (h : j < 100000) : wrap64 ((j : Int) + 1) = ((j + 1 : Nat) : Int) := by
  rw [wrap64_id (by omega) (by omega)]; omega
def sumv : List Int → Int
  | [] => 0
  | n :: l => cnt n + sumv l
def prodv : List Int → Int
  | [] => 1
  | n :: l => cnt n * prodv l
def low (n : Int) : Int := min n 1125899906842624
def zeroIn : List Int → Bool
  | [] => false
  | n :: l => cnt n == 0 || zeroIn l
theorem sumv_nonneg : ∀ l, 0 ≤ sumv l
  | [] => Int.le_refl 0
  | n :: l => by have := sumv_nonneg l; have := cnt_bounds n; simp only [sumv]; omega
theorem prodv_pos : ∀ l, zeroIn l = false → 1 ≤ prodv l
  | [], _ => Int.le_refl 1
  | n :: l, h => by
    simp only [zeroIn, Bool.or_eq_false_iff, beq_eq_false_iff_ne] at h
    have h1 := prodv_pos l h.2
    have h2 := cnt_bounds n
    have h3 : 1 ≤ cnt n := by omega
    simp only [prodv]
    have := Int.mul_le_mul h3 h1 (by omega) (by omega)
    omega
theorem sumv_append (a b : List Int) : sumv (a ++ b) = sumv a + sumv b := by
  induction a with
  | nil => simp [sumv]
  | cons n a ih => simp only [List.cons_append, sumv, ih]; omega
theorem sumv_reverse (l : List Int) : sumv l.reverse = sumv l := by
  induction l with
  | nil => rfl
  | cons n l ih => simp only [List.reverse_cons, sumv_append, sumv, ih]; omega
theorem prodv_append (a b : List Int) : prodv (a ++ b) = prodv a * prodv b := by
  induction a with
  | nil => simp [prodv]
  | cons n a ih => simp only [List.cons_append, prodv, ih, Int.mul_assoc]
theorem prodv_reverse (l : List Int) : prodv l.reverse = prodv l := by
  induction l with
  | nil => rfl
  | cons n l ih => simp only [List.reverse_cons, prodv_append, prodv, ih, Int.mul_one]; exact Int.mul_comm _ _
theorem zeroIn_append (a b : List Int) : zeroIn (a ++ b) = (zeroIn a || zeroIn b) := by
  induction a with
  | nil => rfl
  | cons n a ih => simp only [List.cons_append, zeroIn, ih, Bool.or_assoc]
theorem zeroIn_reverse (l : List Int) : zeroIn l.reverse = zeroIn l := by
  induction l with
  | nil => rfl
  | cons n l ih => simp only [List.reverse_cons, zeroIn_append, zeroIn, ih, Bool.or_false]; exact Bool.or_comm _ _
def addv (l : List Int) : Int := low (sumv l)
def mulv (l : List Int) : Int := if zeroIn l = true then 0 else low (prodv l)
theorem low_bounds {n : Int} (h : 0 ≤ n) : 0 ≤ low n ∧ low n ≤ 1125899906842624 := by unfold low; omega
theorem add_loop (l : List Int) (hl : l.length < 1000) : ∀ (d j k : Nat) (s : Int), j + d = l.length → d < k → 0 ≤ s → s ≤ 1125899906842624 → ratio_Add.lo0 k l s j = some (low (s + sumv (l.drop j))) := by
  intro d
  induction d with
  | zero =>
    intro j k s h hk h0 h1
    obtain ⟨k, rfl⟩ : ∃ q, k = q + 1 := ⟨k - 1, by omega⟩
    rw [ratio_Add.lo0, if_neg (by omega), List.drop_eq_nil_of_le (by omega)]
    simp only [sumv, low]; congr 1; omega
  | succ d ih =>
    intro j k s h hk h0 h1
    obtain ⟨k, rfl⟩ : ∃ q, k = q + 1 := ⟨k - 1, by omega⟩
    have hc := cnt_bounds (rd l j)
    have hs := sumv_nonneg (l.drop (j + 1))
    rw [ratio_Add.lo0, if_pos (by omega), if_pos (by omega), counts_eq, next_at j (by omega)]
    simp only [Option.bind_some]
    rw [wrap64_id (by omega) (by omega), drop_at l j (by omega)]
    split
    · rw [ih (j + 1) k _ (by omega) (by omega) (by omega) (by omega)]
      simp only [sumv, low]
      congr 1
      omega
    · rw [ih (j + 1) k _ (by omega) (by omega) (by omega) (by omega)]
      simp only [sumv]
      congr 2
      omega
theorem add_eq (k : Nat) (hk : 200 ≤ k) (l : List Int) (hl : l.length < 150) : ratio_Add.f k l = some (addv l) := by
  unfold ratio_Add.f
  have := add_loop l (by omega) l.length 0 k 0 (by omega) (by omega) (by omega) (by omega)
  rw [show ((0 : Nat) : Int) = 0 from rfl] at this
  rw [this]
  simp [addv]
theorem low_mul {s c : Int} (h0 : 0 ≤ s) (hc : 1 ≤ c) : low (low s * c) = low (s * c) := by
  unfold low
  by_cases h : s ≤ 1125899906842624
  · rw [show min s 1125899906842624 = s by omega]
  · rw [show min s 1125899906842624 = 1125899906842624 by omega]
    have h1 : 1125899906842624 * c ≤ s * c := Int.mul_le_mul_of_nonneg_right (by omega) (by omega)
    have h2 : 1125899906842624 * 1 ≤ 1125899906842624 * c := Int.mul_le_mul_of_nonneg_left hc (by omega)
    omega
theorem mul_step {s c : Int} (hc : 1 ≤ c) :
    (s ≤ wrap64 (Int.tdiv (1125899906842624 : Int) c)) ↔ s * c ≤ 1125899906842624 := by
  rw [tdiv_pos (by omega), wrap64_id (by have := div_le (a := 1125899906842624) (by omega) hc; omega) (by have := div_le (a := 1125899906842624) (by omega) hc; omega)]
  exact Int.le_ediv_iff_mul_le (by omega)
theorem mul_loop (l : List Int) (hl : l.length < 1000) : ∀ (d j k : Nat) (s : Int), j + d = l.length → d < k → 1 ≤ s → s ≤ 1125899906842624 → zeroIn (l.drop j) = false → ratio_Mul.lo0 k l s j = some (low (s * prodv (l.drop j))) := by
  intro d
  induction d with
  | zero =>
    intro j k s h hk h0 h1 hz
    obtain ⟨k, rfl⟩ : ∃ q, k = q + 1 := ⟨k - 1, by omega⟩
    rw [ratio_Mul.lo0, if_neg (by omega), List.drop_eq_nil_of_le (by omega)]
    simp only [prodv, low, Int.mul_one]; congr 1; omega
  | succ d ih =>
    intro j k s h hk h0 h1 hz
    obtain ⟨k, rfl⟩ : ∃ q, k = q + 1 := ⟨k - 1, by omega⟩
    have hb := cnt_bounds (rd l j)
    rw [drop_at l j (by omega)] at hz ⊢
    simp only [zeroIn, Bool.or_eq_false_iff, beq_eq_false_iff_ne] at hz
    have hc : 1 ≤ cnt (rd l j) := by omega
    have hp := prodv_pos _ hz.2
    have hsc : 1 * 1 ≤ s * cnt (rd l j) := Int.mul_le_mul h0 hc (by omega) (by omega)
    rw [ratio_Mul.lo0, if_pos (by omega), if_pos (by omega), counts_eq, next_at j (by omega)]
    simp only [Option.bind_some]
    rw [if_neg (by omega)]
    have hst := mul_step (s := s) hc
    have e := low_mul (s := s * cnt (rd l j)) (by omega) hp
    simp only [prodv]
    rw [← Int.mul_assoc, ← e]
    by_cases h2 : s * cnt (rd l j) ≤ 1125899906842624
    · rw [if_pos (hst.2 h2), wrap64_id (by omega) (by omega), ih (j + 1) k _ (by omega) (by omega) (by omega) (by omega) hz.2]
      rw [show low (s * cnt (rd l j)) = s * cnt (rd l j) by unfold low; omega]
    · rw [if_neg (fun h => h2 (hst.1 h)), ih (j + 1) k _ (by omega) (by omega) (by omega) (by omega) hz.2]
      rw [show low (s * cnt (rd l j)) = 1125899906842624 by unfold low; omega]
theorem zero_eq (n : Int) : ratio_zero.f n = some (cnt n == 0) := by
  unfold ratio_zero.f; rw [counts_eq]; rfl
theorem idx_loop (l : List Int) (hl : l.length < 1000) : ∀ (d j k : Nat), j + d = l.length → d < k →
    (zeroIn (l.drop j) = false ∧ slices_IndexFunc_int_int_F53.lo0 k l j = some (.out ())) ∨ (zeroIn (l.drop j) = true ∧ ∃ i : Int, 0 ≤ i ∧ slices_IndexFunc_int_int_F53.lo0 k l j = some (.ret i)) := by
  intro d
  induction d with
  | zero =>
    intro j k h hk
    obtain ⟨k, rfl⟩ : ∃ q, k = q + 1 := ⟨k - 1, by omega⟩
    rw [slices_IndexFunc_int_int_F53.lo0, if_neg (by omega), List.drop_eq_nil_of_le (by omega)]
    exact .inl ⟨rfl, rfl⟩
  | succ d ih =>
    intro j k h hk
    obtain ⟨k, rfl⟩ : ∃ q, k = q + 1 := ⟨k - 1, by omega⟩
    rw [drop_at l j (by omega), slices_IndexFunc_int_int_F53.lo0, if_pos (by omega), if_pos (by omega), zero_eq, next_at j (by omega)]
    simp only [Option.bind_some, zeroIn]
    cases hc : cnt (rd l j) == 0
    · simpa using ih (j + 1) k (by omega) (by omega)
    · right; simp
theorem contains_eq (k : Nat) (hk : 200 ≤ k) (l : List Int) (hl : l.length < 150) : slices_ContainsFunc_int_int_F53.f k l = some (zeroIn l) := by
  unfold slices_ContainsFunc_int_int_F53.f slices_IndexFunc_int_int_F53.f
  have := idx_loop l (by omega) l.length 0 k (by omega) (by omega)
  rw [show ((0 : Nat) : Int) = 0 from rfl] at this
  rcases this with ⟨h1, h2⟩ | ⟨h1, i, h0, h2⟩
  · rw [List.drop_zero] at h1; simp [h1, h2, Lp.elim]
  · rw [List.drop_zero] at h1; simp [h1, h2, Lp.elim, h0]
theorem mul_eq (k : Nat) (hk : 200 ≤ k) (l : List Int) (hl : l.length < 150) : ratio_Mul.f k l = some (mulv l) := by
  unfold ratio_Mul.f mulv
  rw [contains_eq k hk l hl]
  simp only [Option.bind_some]
  cases hz : zeroIn l
  · have := mul_loop l (by omega) l.length 0 k 1 (by omega) (by omega) (by omega) (by omega) (by simpa using hz)
    rw [show ((0 : Nat) : Int) = 0 from rfl] at this
    rw [this]
    simp
  · simp
theorem mul2 (k : Nat) (hk : 200 ≤ k) {a b : Int} (ha : 0 ≤ a) (ha' : a ≤ 1125899906842624) (hb : 0 ≤ b) (hb' : b ≤ 1125899906842624) (h : a * b ≤ 1125899906842624) : ratio_Mul.f k [a, b] = some (a * b) := by
  rw [mul_eq k hk _ (by simp)]
  congr 1
  unfold mulv
  simp only [zeroIn, prodv, cnt_id ha ha', cnt_id hb hb', Int.mul_one, Bool.or_false, Bool.or_eq_true, beq_iff_eq]
  by_cases h0 : a = 0 ∨ b = 0
  · rw [if_pos h0]
    rcases h0 with rfl | rfl <;> simp
  · rw [if_neg h0]; unfold low; omega
theorem add2 (k : Nat) (hk : 200 ≤ k) {a b : Int} (ha : 0 ≤ a) (hb : 0 ≤ b) (h : a + b ≤ 1125899906842624) : ratio_Add.f k [a, b] = some (a + b) := by
  rw [add_eq k hk _ (by simp)]
  congr 1
  unfold addv
  simp only [sumv, cnt_id ha (by omega), cnt_id hb (by omega)]
  unfold low; omega
theorem add3 (k : Nat) (hk : 200 ≤ k) {a b c : Int} (ha : 0 ≤ a) (hb : 0 ≤ b) (hc : 0 ≤ c) (h : a + b + c ≤ 1125899906842624) : ratio_Add.f k [a, b, c] = some (a + b + c) := by
  rw [add_eq k hk _ (by simp)]
  congr 1
  unfold addv
  simp only [sumv, cnt_id ha (by omega), cnt_id hb (by omega), cnt_id hc (by omega)]
  unfold low; omega
def ceilv (a b : Int) : Int := (a + b - 1) / b
theorem ceil_spec {x y : Int} (hy : 1 ≤ y) : ceilv x y * y - y < x ∧ x ≤ ceilv x y * y := by
  have e := Int.mul_ediv_add_emod (x + y - 1) y
  have h0 := Int.emod_nonneg (x + y - 1) (show y ≠ 0 by omega)
  have h1 := Int.emod_lt_of_pos (x + y - 1) (show 0 < y by omega)
  have hL : ceilv x y = (x + y - 1) / y := rfl
  rw [← hL, Int.mul_comm] at e
  omega
theorem ceil_bounds {x y : Int} (hx : 0 ≤ x) (hy : 1 ≤ y) : 0 ≤ ceilv x y ∧ ceilv x y ≤ x := by
  have hs := ceil_spec (x := x) hy
  constructor
  · exact Int.ediv_nonneg (by omega) (by omega)
  · rcases Int.lt_or_le x (ceilv x y) with h | h
    · have h1 : x * 1 ≤ x * y := Int.mul_le_mul_of_nonneg_left hy hx
      have h2 : (x + 1) * y ≤ ceilv x y * y := Int.mul_le_mul_of_nonneg_right (by omega) (by omega)
      rw [Int.add_mul] at h2
      omega
    · exact h
theorem ceil_le {x y L : Int} (hy : 1 ≤ y) (h : x ≤ L * y) : ceilv x y ≤ L := by
  have hs := ceil_spec (x := x) hy
  have : (ceilv x y - 1) * y < L * y := by rw [Int.sub_mul]; omega
  have := Int.lt_of_mul_lt_mul_right this (by omega)
  omega
theorem upc (a b : Int) (ha : 0 ≤ a) (ha' : a ≤ 1125899906842624) (hb : 1 ≤ b) (hb' : b ≤ 1125899906842624) : ratio_Up.f a b = some (ceilv a b) := by
  rw [up_eq]
  congr 1
  unfold upv ceilv byv
  rw [cnt_id ha ha', cnt_id (n := b) (by omega) hb', show max 1 b = b by omega]
/-! ### the plan -/
def mayv (N W R K : Int) : Prop := 1 ≤ N ∧ N ≤ 1048576 ∧ 16 ≤ W ∧ W ≤ 256 ∧ 1 ≤ R ∧ R ≤ 4096 ∧ 1 ≤ K ∧ K ≤ 65536 ∧ N * W ≤ 4194304
instance (N W R K : Int) : Decidable (mayv N W R K) := by unfold mayv; infer_instance
theorem nw_small {N W : Int} (h1 : 1 ≤ N) (h2 : N ≤ 1048576) (h3 : 16 ≤ W) (h4 : W ≤ 256) : 16 ≤ N * W ∧ N * W ≤ 268435456 := by
  have a : 1 * 16 ≤ N * W := Int.mul_le_mul h1 h3 (by omega) (by omega)
  have b : N * W ≤ 1048576 * 256 := Int.mul_le_mul h2 h4 (by omega) (by omega)
  omega
theorem within_eq (n lo hi : Int) (_ : lo ≤ hi) : plan_within.f n lo hi = some (decide (lo ≤ n ∧ n ≤ hi)) := by
  unfold plan_within.f
  rw [clamp_eq]
  simp only [Option.bind_some]
  congr 1
  rw [Bool.eq_iff_iff, beq_iff_eq, decide_eq_true_eq]
  by_cases h1 : n > hi
  · rw [if_pos h1]; omega
  · rw [if_neg h1]
    by_cases h2 : n < lo
    · rw [if_pos h2]; omega
    · rw [if_neg h2]; omega
theorem check_eq (N W R K : Int) : plan_Check.f N W R K = some (if mayv N W R K then 0 else 1) := by
  unfold plan_Check.f
  simp only [within_eq _ 1 1048576 (by decide), within_eq _ 16 256 (by decide), within_eq _ 1 4096 (by decide), within_eq _ 1 65536 (by decide), Option.bind_some, decide_eq_true_eq]
  by_cases h1 : 1 ≤ N ∧ N ≤ 1048576
  · rw [if_pos h1]
    by_cases h2 : 16 ≤ W ∧ W ≤ 256
    · rw [if_pos h2]
      have := nw_small h1.1 h1.2 h2.1 h2.2
      rw [wrap64_id (by omega) (by omega)]
      by_cases h3 : 1 ≤ R ∧ R ≤ 4096
      · rw [if_pos h3]
        by_cases h4 : 1 ≤ K ∧ K ≤ 65536
        · rw [if_pos h4]
          by_cases h5 : N * W ≤ 4194304
          · rw [if_pos h5, if_pos (show mayv N W R K by unfold mayv; omega)]
          · rw [if_neg h5, if_neg (show ¬ mayv N W R K by unfold mayv; omega)]
        · rw [if_neg h4, if_neg (show ¬ mayv N W R K by unfold mayv; omega)]
      · rw [if_neg h3, if_neg (show ¬ mayv N W R K by unfold mayv; omega)]
    · rw [if_neg h2, if_neg (show ¬ mayv N W R K by unfold mayv; omega)]
  · rw [if_neg h1, if_neg (show ¬ mayv N W R K by unfold mayv; omega)]
def drainv (N W : Int) : Int := N * (W + 1)
def epochv (N W : Int) : Int := 3 * drainv N W + 4
def lagv (N W K : Int) : Int := 2 * ceilv (epochv N W) K + 2 * (W - 7)
def settlev (N W K : Int) : Int := ceilv (epochv N W + epochv N W + drainv N W) K + 2
def ofv (N W R K : Int) : Int × Int × Int × Int × Int × Int × Int × Int × Int :=
  if mayv N W R K then (24 + R + N * W, W - 8, W - 7, (W - 8) * (W - 1), epochv N W, drainv N W, lagv N W K, settlev N W K, 0) else (0, 0, 0, 0, 0, 0, 0, 0, 1)
theorem drain_bounds {N W R K : Int} (h : mayv N W R K) : 17 ≤ drainv N W ∧ drainv N W ≤ 5242880 ∧ drainv N W = N * W + N := by
  obtain ⟨a, b, c, d, _, _, _, _, e⟩ := h
  have := nw_small a b c d
  have e : drainv N W = N * W + N := by unfold drainv; rw [Int.mul_add]; omega
  omega
theorem of_eq (k : Nat) (hk : 200 ≤ k) (N W R K : Int) : plan_Of.f k N W R K = some (ofv N W R K) := by
  unfold plan_Of.f ofv
  rw [check_eq]
  simp only [Option.bind_some]
  by_cases h : mayv N W R K
  · simp only [if_pos h]
    rw [if_pos trivial]
    have hd := drain_bounds h
    obtain ⟨a, b, c, d, e, f, g, i, j⟩ := h
    have hs := nw_small a b c d
    have hf : (W - 8) * (W - 1) ≤ 248 * 255 := Int.mul_le_mul (by omega) (by omega) (by omega) (by omega)
    have hdr : N * (W + 1) = drainv N W := rfl
    have hep : 3 * drainv N W + 4 = epochv N W := rfl
    rw [wrap64_id (n := W - 8) (by omega) (by omega), wrap64_id (n := W - 1) (by omega) (by omega), wrap64_id (n := W + 1) (by omega) (by omega), wrap64_id (n := W - 8 + 1) (by omega) (by omega)]
    have c1 := ceil_bounds (x := epochv N W) (y := K) (by omega) g
    have c2 := ceil_bounds (x := epochv N W + epochv N W + drainv N W) (y := K) (by omega) g
    rw [mul2 k hk (a := N) (b := W) (by omega) (by omega) (by omega) (by omega) (by omega)]
    simp only [Option.bind_some]
    rw [add3 k hk (by omega) (by omega) (by omega) (by omega)]
    simp only [Option.bind_some]
    rw [mul2 k hk (a := W - 8) (b := W - 1) (by omega) (by omega) (by omega) (by omega) (by omega)]
    simp only [Option.bind_some]
    rw [mul2 k hk (a := N) (b := W + 1) (by omega) (by omega) (by omega) (by omega) (by omega), hdr]
    simp only [Option.bind_some]
    rw [mul2 k hk (a := 3) (b := drainv N W) (by omega) (by omega) (by omega) (by omega) (by omega)]
    simp only [Option.bind_some]
    rw [add2 k hk (by omega) (by omega) (by omega), hep]
    simp only [Option.bind_some]
    rw [upc _ _ (by omega) (by omega) g (by omega)]
    simp only [Option.bind_some]
    rw [mul2 k hk (a := 2) (b := ceilv (epochv N W) K) (by omega) (by omega) (by omega) (by omega) (by omega)]
    simp only [Option.bind_some]
    rw [show W - 8 + 1 = W - 7 by omega, mul2 k hk (a := 2) (b := W - 7) (by omega) (by omega) (by omega) (by omega) (by omega)]
    simp only [Option.bind_some]
    rw [add2 k hk (by omega) (by omega) (by omega)]
    simp only [Option.bind_some]
    rw [add3 k hk (by omega) (by omega) (by omega) (by omega)]
    simp only [Option.bind_some]
    rw [upc _ _ (by omega) (by omega) g (by omega)]
    simp only [Option.bind_some]
    rw [add2 k hk (by omega) (by omega) (by omega)]
    rfl
  · simp only [if_neg h]
    rw [if_neg (by decide)]
def pausev (N W R K kind blocks : Int) : Int :=
  if mayv N W R K ∧ 1 ≤ kind ∧ kind ≤ 10 then (if kind = 1 then 512 + max 0 (min blocks (W - 7)) * (256 + 100 * (W + K)) else if kind = 10 then 256 + 200 * K else 512) else 0
theorem clamp0 (n hi : Int) (h : 0 ≤ hi) : ratio_Clamp.f n 0 hi = some (max 0 (min n hi)) := by
  rw [clamp_eq]; congr 1
  by_cases h1 : n > hi
  · rw [if_pos h1]; omega
  · rw [if_neg h1]
    by_cases h2 : n < 0
    · rw [if_pos h2]; omega
    · rw [if_neg h2]; omega
theorem alloc_bounds {W K b : Int} (c : 16 ≤ W) (d : W ≤ 256) (g : 1 ≤ K) (i : K ≤ 65536) (h0 : 0 ≤ b) (h1 : b ≤ W - 7) : 0 ≤ b * (256 + 100 * (W + K)) ∧ b * (256 + 100 * (W + K)) ≤ 249 * 6579456 :=
  ⟨Int.mul_nonneg h0 (by omega), Int.mul_le_mul (by omega) (by omega) (by omega) (by omega)⟩
theorem pause_eq (k : Nat) (hk : 200 ≤ k) (N W R K kind blocks : Int) : plan_Pause.f k N W R K kind blocks = some (pausev N W R K kind blocks) := by
  unfold plan_Pause.f pausev
  rw [of_eq k hk, within_eq _ 1 10 (by decide)]
  simp only [Option.bind_some, decide_eq_true_eq]
  by_cases h : mayv N W R K
  · simp only [ofv, if_pos h]
    obtain ⟨a, b, c, d, e, f, g, i, j⟩ := id h
    rw [if_pos trivial]
    by_cases hr : 1 ≤ kind ∧ kind ≤ 10
    · rw [if_pos hr, if_pos (show mayv N W R K ∧ 1 ≤ kind ∧ kind ≤ 10 from ⟨h, hr⟩)]
      by_cases h1 : kind = 1
      · rw [if_pos h1, if_pos h1, clamp0 _ _ (by omega)]
        have hb := alloc_bounds (b := max 0 (min blocks (W - 7))) c d g i (by omega) (by omega)
        simp only [Option.bind_some]
        rw [wrap64_id (n := W + K) (by omega) (by omega), wrap64_id (n := 100 * (W + K)) (by omega) (by omega), wrap64_id (n := 256 + 100 * (W + K)) (by omega) (by omega)]
        generalize max 0 (min blocks (W - 7)) = m at *
        have hm : m ≤ 1125899906842624 ∧ 0 ≤ m := by
          rcases Int.lt_or_le m 0 with h | h
          · have : m * (256 + 100 * (W + K)) < 0 := Int.mul_neg_of_neg_of_pos h (by omega); omega
          · have : m * 1 ≤ m * (256 + 100 * (W + K)) := Int.mul_le_mul_of_nonneg_left (by omega) h; omega
        rw [mul2 k hk (a := m) hm.2 hm.1 (by omega) (by omega) (by omega)]
        simp only [Option.bind_some]
        rw [add2 k hk (by omega) (by omega) (by omega)]
        rfl
      · rw [if_neg h1, if_neg h1]
        by_cases h2 : kind = 10
        · rw [if_pos h2, if_pos h2, mul2 k hk (by omega) (by omega) (by omega) (by omega) (by omega)]
          simp only [Option.bind_some]
          rw [add2 k hk (by omega) (by omega) (by omega)]
          rfl
        · rw [if_neg h2, if_neg h2]
    · rw [if_neg hr, if_neg (show ¬ (mayv N W R K ∧ 1 ≤ kind ∧ kind ≤ 10) from fun x => hr x.2)]
  · simp only [ofv, if_neg h]
    rw [if_neg (by decide), if_neg (fun x => h x.1)]
theorem awake : quitrenttop_awakePlan.f 300 = some true := by decide +kernel
theorem clamp1 (n hi : Int) (h : 1 ≤ hi) : ∃ b, ratio_Clamp.f n 1 hi = some b ∧ 1 ≤ b ∧ b ≤ hi := by
  rw [clamp_eq]
  by_cases h1 : n > hi
  · exact ⟨hi, by rw [if_pos h1], h, Int.le_refl _⟩
  · by_cases h2 : n < 1
    · exact ⟨1, by rw [if_neg h1, if_pos h2], Int.le_refl _, h⟩
    · exact ⟨n, by rw [if_neg h1, if_neg h2], by omega, by omega⟩
theorem WholeNumbers (N W R K B : Int) (_ : (Lit.int .i64 N).wf = true) (_ : (Lit.int .i64 W).wf = true) (_ : (Lit.int .i64 R).wf = true) (_ : (Lit.int .i64 K).wf = true) (_ : (Lit.int .i64 B).wf = true) : ∃ k, quitrenttop_WholeNumbers.f k N W R K B = some true := by
  have hb := awake
  obtain ⟨k, hk, hk2⟩ : ∃ k : Nat, k = 300 ∧ 200 ≤ k := ⟨300, rfl, by decide⟩
  rw [← hk] at hb
  refine ⟨k, ?_⟩
  unfold quitrenttop_WholeNumbers.f
  rw [of_eq k hk2, hb]
  simp only [Option.bind_some, if_true]
  by_cases h : mayv N W R K
  · simp only [ofv, if_pos h]
    rw [if_pos trivial]
    have hd := drain_bounds h
    have hp := pause_eq k hk2 N W R K 1
    obtain ⟨a, b, c, d, e, f, g, i, j⟩ := id h
    have hs := nw_small a b c d
    have hE : epochv N W = 3 * drainv N W + 4 := rfl
    have c1 := ceil_spec (x := epochv N W) (y := K) g
    have c2 := ceil_spec (x := epochv N W + epochv N W + drainv N W) (y := K) g
    have d1 := ceil_bounds (x := epochv N W) (y := K) (by omega) g
    have d2 := ceil_bounds (x := epochv N W + epochv N W + drainv N W) (y := K) (by omega) g
    unfold lagv settlev
    generalize ceilv (epochv N W + epochv N W + drainv N W) K = S at *
    generalize ceilv (epochv N W) K = L at *
    rw [wrap64_id (n := S + 2 - 2) (by omega) (by omega), show S + 2 - 2 = S by omega, wrap64_id (n := 2 * (W - 7)) (by omega) (by omega), show 2 * L + 2 * (W - 7) - 2 * (W - 7) = 2 * L by omega, wrap64_id (n := 2 * L) (by omega) (by omega)]
    have e2 : 2 * L * K = 2 * (L * K) := Int.mul_assoc _ _ _
    rw [mul2 k hk2 (a := S) (b := K) d2.1 (by omega) (by omega) (by omega) (by omega)]
    simp only [Option.bind_some]
    rw [mul2 k hk2 (a := 2 * L) (b := K) (by omega) (by omega) (by omega) (by omega) (by omega)]
    simp only [Option.bind_some]
    obtain ⟨m, em, m1, m2⟩ := clamp1 B (W - 7) (by omega)
    rw [em]
    simp only [Option.bind_some]
    rw [wrap64_id (n := 2 * epochv N W) (by omega) (by omega), wrap64_id (n := 2 * epochv N W + drainv N W) (by omega) (by omega), if_pos (by omega), if_pos (by omega), wrap64_id (n := drainv N W * 3) (by omega) (by omega), wrap64_id (n := drainv N W * 3 + 4) (by omega) (by omega), if_pos (by omega), hp]
    simp only [Option.bind_some]
    have hm := alloc_bounds (b := m) c d g i (by omega) m2
    have e3 : m * (256 + 100 * (W + K)) = 256 * m + 100 * (m * (K + W)) := by
      rw [Int.mul_add, Int.mul_comm m 256, Int.mul_left_comm, Int.add_comm W K]
    have e4 : 0 ≤ m * (K + W) := Int.mul_nonneg (by omega) (by omega)
    have ep : pausev N W R K 1 m = 512 + m * (256 + 100 * (W + K)) := by
      unfold pausev
      rw [if_pos ⟨h, by decide, by decide⟩, if_pos rfl, show max 0 (min m (W - 7)) = m by omega]
    rw [ep, wrap64_id (n := K + W) (by omega) (by omega), wrap64_id (n := m * (K + W)) (by omega) (by omega), if_pos (by omega), wrap64_id (n := 24 + R) (by omega) (by omega), wrap64_id (n := N * W) (by omega) (by omega), wrap64_id (n := 24 + R + N * W) (by omega) (by omega)]
    simp
  · simp only [ofv, if_neg h]
    rw [if_neg (by decide)]
end Go.Proofs.Ytgkpcboaiaiahaa.V
