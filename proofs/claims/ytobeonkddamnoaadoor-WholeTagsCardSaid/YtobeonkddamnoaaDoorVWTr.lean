/- The laws of the group WTr on the plain functions. No condition. -/
import Derived.Test.YtobeonkddamnoaaDoorMWT
import Derived.DataShut
import Derived.Laws.Bits64
import Derived.Laws.BitsLemmas
import Derived.RowKit
import Derived.KernelRfl
namespace Go.Proofs.YtobeonkddamnoaaDoor.V
open Go.RowKit Go.Proofs.YtobeonkddamnoaaDoor.C Go.Proofs.YtobeonkddamnoaaDoor.M Go.Proofs.YtobeonkddamnoaaDoorW.PrintWords
set_option linter.unusedVariables false
set_option linter.unusedSimpArgs false
theorem wrap64_id {n : Int} (h0 : -9223372036854775808 ≤ n) (h1 : n ≤ 9223372036854775807) : wrap64 n = n := by unfold wrap64; omega
/-- What a number counts as. -/
def cnt (n : Int) : Int := max 0 (min n 1125899906842624)
def byv (n : Int) : Int := max 1 (cnt n)
theorem cnt_bounds (n : Int) : 0 ≤ cnt n ∧ cnt n ≤ 1125899906842624 := by unfold cnt; omega
theorem byv_bounds (n : Int) : 1 ≤ byv n ∧ byv n ≤ 1125899906842624 := by have := cnt_bounds n; unfold byv; omega
theorem cnt_id {n : Int} (h : 0 ≤ n) (h' : n ≤ 1125899906842624) : cnt n = n := by unfold cnt; omega
theorem clamp_eq (n lo hi : Int) : ratio_Clamp.f n lo hi = some (if n > hi then hi else if n < lo then lo else n) := by
  unfold ratio_Clamp.f; split <;> (try split) <;> simp_all
theorem counts_eq (n : Int) : ratio_counts.f n = some (cnt n) := by
  unfold ratio_counts.f; rw [clamp_eq]; simp only [Option.bind_some, cnt]
  congr 1
  by_cases h1 : n > 1125899906842624
  · rw [if_pos h1]; omega
  · rw [if_neg h1]
    by_cases h2 : n < 0
    · rw [if_pos h2]; omega
    · rw [if_neg h2]; omega
theorem by_eq (n : Int) : ratio_by.f n = some (byv n) := by
  unfold ratio_by.f byv; rw [counts_eq]; simp only [Option.bind_some]
  by_cases h : cnt n < 1
  · rw [if_pos h]; congr 1; omega
  · rw [if_neg h]; congr 1; omega
theorem tdiv_pos {a b : Int} (h : 0 ≤ a) : Int.tdiv a b = a / b := Int.tdiv_eq_ediv_of_nonneg h
def upv (a b : Int) : Int := (cnt a + byv b - 1) / byv b
theorem div_le {a b : Int} (h : 0 ≤ a) (hb : 1 ≤ b) : 0 ≤ a / b ∧ a / b ≤ a := ⟨Int.ediv_nonneg h (by omega), Int.ediv_le_self _ h⟩
theorem up_eq (a b : Int) : ratio_Up.f a b = some (upv a b) := by
  have ha := cnt_bounds a; have hb := byv_bounds b
  have hd := div_le (a := cnt a + byv b - 1) (by omega) hb.1
  unfold ratio_Up.f upv; simp only [counts_eq, by_eq, Option.bind_some]
  rw [if_neg (by omega), wrap64_id (n := cnt a + byv b) (by omega) (by omega), wrap64_id (n := cnt a + byv b - 1) (by omega) (by omega), tdiv_pos (by omega), wrap64_id (by omega) (by omega)]
theorem up_split {x y : Int} (hy : 1 ≤ y) : (x + y - 1) / y = if x % y > 0 then x / y + 1 else x / y := by
  have e := Int.mul_ediv_add_emod x y
  have h0 := Int.emod_nonneg x (show y ≠ 0 by omega)
  have h1 := Int.emod_lt_of_pos x (show 0 < y by omega)
  split
  · rw [Int.ediv_eq_iff_of_pos (by omega)]
    have : x / y * y = y * (x / y) := Int.mul_comm _ _
    constructor
    · rw [Int.add_mul]; omega
    · rw [Int.add_mul]; omega
  · rw [Int.ediv_eq_iff_of_pos (by omega)]
    have : x / y * y = y * (x / y) := Int.mul_comm _ _
    constructor <;> omega
/-! ### lists -/
theorem rd_at (l : List Int) (j : Nat) (h : j < l.length) : rd l (j : Int) = l[j] := by
  simp [rd, List.getD_eq_getElem?_getD, List.getElem?_eq_getElem h]
theorem drop_at (l : List Int) (j : Nat) (h : j < l.length) : l.drop j = rd l (j : Int) :: l.drop (j + 1) := by
  rw [rd_at l j h]; exact List.drop_eq_getElem_cons h
theorem next_at (j : Nat) (h : j < 100000) : wrap64 ((j : Int) + 1) = ((j + 1 : Nat) : Int) := by
  rw [wrap64_id (by omega) (by omega)]; omega
def sumv : List Int → Int
  | [] => 0
  | n :: l => cnt n + sumv l
def prodv : List Int → Int
  | [] => 1
  | n :: l => cnt n * prodv l
def low (n : Int) : Int := min n 1125899906842624
def zeroIn : List Int → Bool
  | [] => false
  | n :: l => cnt n == 0 || zeroIn l
theorem sumv_nonneg : ∀ l, 0 ≤ sumv l
  | [] => Int.le_refl 0
  | n :: l => by have := sumv_nonneg l; have := cnt_bounds n; simp only [sumv]; omega
theorem prodv_pos : ∀ l, zeroIn l = false → 1 ≤ prodv l
  | [], _ => Int.le_refl 1
  | n :: l, h => by
    simp only [zeroIn, Bool.or_eq_false_iff, beq_eq_false_iff_ne] at h
    have h1 := prodv_pos l h.2
    have h2 := cnt_bounds n
    have h3 : 1 ≤ cnt n := by omega
    simp only [prodv]
    have := Int.mul_le_mul h3 h1 (by omega) (by omega)
    omega
theorem sumv_append (a b : List Int) : sumv (a ++ b) = sumv a + sumv b := by
  induction a with
  | nil => simp [sumv]
  | cons n a ih => simp only [List.cons_append, sumv, ih]; omega
theorem sumv_reverse (l : List Int) : sumv l.reverse = sumv l := by
  induction l with
  | nil => rfl
  | cons n l ih => simp only [List.reverse_cons, sumv_append, sumv, ih]; omega
theorem prodv_append (a b : List Int) : prodv (a ++ b) = prodv a * prodv b := by
  induction a with
  | nil => simp [prodv]
  | cons n a ih => simp only [List.cons_append, prodv, ih, Int.mul_assoc]
theorem prodv_reverse (l : List Int) : prodv l.reverse = prodv l := by
  induction l with
  | nil => rfl
  | cons n l ih => simp only [List.reverse_cons, prodv_append, prodv, ih, Int.mul_one]; exact Int.mul_comm _ _
theorem zeroIn_append (a b : List Int) : zeroIn (a ++ b) = (zeroIn a || zeroIn b) := by
  induction a with
  | nil => rfl
  | cons n a ih => simp only [List.cons_append, zeroIn, ih, Bool.or_assoc]
theorem zeroIn_reverse (l : List Int) : zeroIn l.reverse = zeroIn l := by
  induction l with
  | nil => rfl
  | cons n l ih => simp only [List.reverse_cons, zeroIn_append, zeroIn, ih, Bool.or_false]; exact Bool.or_comm _ _
def addv (l : List Int) : Int := low (sumv l)
def mulv (l : List Int) : Int := if zeroIn l = true then 0 else low (prodv l)
theorem low_bounds {n : Int} (h : 0 ≤ n) : 0 ≤ low n ∧ low n ≤ 1125899906842624 := by unfold low; omega
theorem add_loop (l : List Int) (hl : l.length < 1000) : ∀ (d j k : Nat) (s : Int), j + d = l.length → d < k → 0 ≤ s → s ≤ 1125899906842624 → ratio_Add.lo0 k l s j = some (low (s + sumv (l.drop j))) := by
  intro d
  induction d with
  | zero =>
    intro j k s h hk h0 h1
    obtain ⟨k, rfl⟩ : ∃ q, k = q + 1 := ⟨k - 1, by omega⟩
    rw [ratio_Add.lo0, if_neg (by omega), List.drop_eq_nil_of_le (by omega)]
    simp only [sumv, low]; congr 1; omega
  | succ d ih =>
    intro j k s h hk h0 h1
    obtain ⟨k, rfl⟩ : ∃ q, k = q + 1 := ⟨k - 1, by omega⟩
    have hc := cnt_bounds (rd l j)
    have hs := sumv_nonneg (l.drop (j + 1))
    rw [ratio_Add.lo0, if_pos (by omega), if_pos (by omega), counts_eq, next_at j (by omega)]
    simp only [Option.bind_some]
    rw [wrap64_id (by omega) (by omega), drop_at l j (by omega)]
    split
    · rw [ih (j + 1) k _ (by omega) (by omega) (by omega) (by omega)]
      simp only [sumv, low]
      congr 1
      omega
    · rw [ih (j + 1) k _ (by omega) (by omega) (by omega) (by omega)]
      simp only [sumv]
      congr 2
      omega
theorem add_eq (k : Nat) (hk : 200 ≤ k) (l : List Int) (hl : l.length < 150) : ratio_Add.f k l = some (addv l) := by
  unfold ratio_Add.f
  have := add_loop l (by omega) l.length 0 k 0 (by omega) (by omega) (by omega) (by omega)
  rw [show ((0 : Nat) : Int) = 0 from rfl] at this
  rw [this]
  simp [addv]
theorem low_mul {s c : Int} (h0 : 0 ≤ s) (hc : 1 ≤ c) : low (low s * c) = low (s * c) := by
  unfold low
  by_cases h : s ≤ 1125899906842624
  · rw [show min s 1125899906842624 = s by omega]
  · rw [show min s 1125899906842624 = 1125899906842624 by omega]
    have h1 : 1125899906842624 * c ≤ s * c := Int.mul_le_mul_of_nonneg_right (by omega) (by omega)
    have h2 : 1125899906842624 * 1 ≤ 1125899906842624 * c := Int.mul_le_mul_of_nonneg_left hc (by omega)
    omega
theorem mul_step {s c : Int} (hc : 1 ≤ c) :
    (s ≤ wrap64 (Int.tdiv (1125899906842624 : Int) c)) ↔ s * c ≤ 1125899906842624 := by
  rw [tdiv_pos (by omega), wrap64_id (by have := div_le (a := 1125899906842624) (by omega) hc; omega) (by have := div_le (a := 1125899906842624) (by omega) hc; omega)]
  exact Int.le_ediv_iff_mul_le (by omega)
theorem mul_loop (l : List Int) (hl : l.length < 1000) : ∀ (d j k : Nat) (s : Int), j + d = l.length → d < k → 1 ≤ s → s ≤ 1125899906842624 → zeroIn (l.drop j) = false → ratio_Mul.lo0 k l s j = some (low (s * prodv (l.drop j))) := by
  intro d
  induction d with
  | zero =>
    intro j k s h hk h0 h1 hz
    obtain ⟨k, rfl⟩ : ∃ q, k = q + 1 := ⟨k - 1, by omega⟩
    rw [ratio_Mul.lo0, if_neg (by omega), List.drop_eq_nil_of_le (by omega)]
    simp only [prodv, low, Int.mul_one]; congr 1; omega
  | succ d ih =>
    intro j k s h hk h0 h1 hz
    obtain ⟨k, rfl⟩ : ∃ q, k = q + 1 := ⟨k - 1, by omega⟩
    have hb := cnt_bounds (rd l j)
    rw [drop_at l j (by omega)] at hz ⊢
    simp only [zeroIn, Bool.or_eq_false_iff, beq_eq_false_iff_ne] at hz
    have hc : 1 ≤ cnt (rd l j) := by omega
    have hp := prodv_pos _ hz.2
    have hsc : 1 * 1 ≤ s * cnt (rd l j) := Int.mul_le_mul h0 hc (by omega) (by omega)
    rw [ratio_Mul.lo0, if_pos (by omega), if_pos (by omega), counts_eq, next_at j (by omega)]
    simp only [Option.bind_some]
    rw [if_neg (by omega)]
    have hst := mul_step (s := s) hc
    have e := low_mul (s := s * cnt (rd l j)) (by omega) hp
    simp only [prodv]
    rw [← Int.mul_assoc, ← e]
    by_cases h2 : s * cnt (rd l j) ≤ 1125899906842624
    · rw [if_pos (hst.2 h2), wrap64_id (by omega) (by omega), ih (j + 1) k _ (by omega) (by omega) (by omega) (by omega) hz.2]
      rw [show low (s * cnt (rd l j)) = s * cnt (rd l j) by unfold low; omega]
    · rw [if_neg (fun h => h2 (hst.1 h)), ih (j + 1) k _ (by omega) (by omega) (by omega) (by omega) hz.2]
      rw [show low (s * cnt (rd l j)) = 1125899906842624 by unfold low; omega]
theorem zero_eq (n : Int) : ratio_zero.f n = some (cnt n == 0) := by
  unfold ratio_zero.f; rw [counts_eq]; rfl
theorem idx_loop (l : List Int) (hl : l.length < 1000) : ∀ (d j k : Nat), j + d = l.length → d < k →
    (zeroIn (l.drop j) = false ∧ slices_IndexFunc_int_int_F150.lo0 k l j = some (.out ())) ∨ (zeroIn (l.drop j) = true ∧ ∃ i : Int, 0 ≤ i ∧ slices_IndexFunc_int_int_F150.lo0 k l j = some (.ret i)) := by
  intro d
  induction d with
  | zero =>
    intro j k h hk
    obtain ⟨k, rfl⟩ : ∃ q, k = q + 1 := ⟨k - 1, by omega⟩
    rw [slices_IndexFunc_int_int_F150.lo0, if_neg (by omega), List.drop_eq_nil_of_le (by omega)]
    exact .inl ⟨rfl, rfl⟩
  | succ d ih =>
    intro j k h hk
    obtain ⟨k, rfl⟩ : ∃ q, k = q + 1 := ⟨k - 1, by omega⟩
    rw [drop_at l j (by omega), slices_IndexFunc_int_int_F150.lo0, if_pos (by omega), if_pos (by omega), zero_eq, next_at j (by omega)]
    simp only [Option.bind_some, zeroIn]
    cases hc : cnt (rd l j) == 0
    · simpa using ih (j + 1) k (by omega) (by omega)
    · right; simp
theorem contains_eq (k : Nat) (hk : 200 ≤ k) (l : List Int) (hl : l.length < 150) : slices_ContainsFunc_int_int_F150.f k l = some (zeroIn l) := by
  unfold slices_ContainsFunc_int_int_F150.f slices_IndexFunc_int_int_F150.f
  have := idx_loop l (by omega) l.length 0 k (by omega) (by omega)
  rw [show ((0 : Nat) : Int) = 0 from rfl] at this
  rcases this with ⟨h1, h2⟩ | ⟨h1, i, h0, h2⟩
  · rw [List.drop_zero] at h1; simp [h1, h2, Lp.elim]
  · rw [List.drop_zero] at h1; simp [h1, h2, Lp.elim, h0]
theorem mul_eq (k : Nat) (hk : 200 ≤ k) (l : List Int) (hl : l.length < 150) : ratio_Mul.f k l = some (mulv l) := by
  unfold ratio_Mul.f mulv
  rw [contains_eq k hk l hl]
  simp only [Option.bind_some]
  cases hz : zeroIn l
  · have := mul_loop l (by omega) l.length 0 k 1 (by omega) (by omega) (by omega) (by omega) (by simpa using hz)
    rw [show ((0 : Nat) : Int) = 0 from rfl] at this
    rw [this]
    simp
  · simp
theorem mul2 (k : Nat) (hk : 200 ≤ k) {a b : Int} (ha : 0 ≤ a) (ha' : a ≤ 1125899906842624) (hb : 0 ≤ b) (hb' : b ≤ 1125899906842624) (h : a * b ≤ 1125899906842624) : ratio_Mul.f k [a, b] = some (a * b) := by
  rw [mul_eq k hk _ (by simp)]
  congr 1
  unfold mulv
  simp only [zeroIn, prodv, cnt_id ha ha', cnt_id hb hb', Int.mul_one, Bool.or_false, Bool.or_eq_true, beq_iff_eq]
  by_cases h0 : a = 0 ∨ b = 0
  · rw [if_pos h0]
    rcases h0 with rfl | rfl <;> simp
  · rw [if_neg h0]; unfold low; omega
theorem add2 (k : Nat) (hk : 200 ≤ k) {a b : Int} (ha : 0 ≤ a) (hb : 0 ≤ b) (h : a + b ≤ 1125899906842624) : ratio_Add.f k [a, b] = some (a + b) := by
  rw [add_eq k hk _ (by simp)]
  congr 1
  unfold addv
  simp only [sumv, cnt_id ha (by omega), cnt_id hb (by omega)]
  unfold low; omega
theorem add3 (k : Nat) (hk : 200 ≤ k) {a b c : Int} (ha : 0 ≤ a) (hb : 0 ≤ b) (hc : 0 ≤ c) (h : a + b + c ≤ 1125899906842624) : ratio_Add.f k [a, b, c] = some (a + b + c) := by
  rw [add_eq k hk _ (by simp)]
  congr 1
  unfold addv
  simp only [sumv, cnt_id ha (by omega), cnt_id hb (by omega), cnt_id hc (by omega)]
  unfold low; omega
def ceilv (a b : Int) : Int := (a + b - 1) / b
theorem ceil_spec {x y : Int} (hy : 1 ≤ y) : ceilv x y * y - y < x ∧ x ≤ ceilv x y * y := by
  have e := Int.mul_ediv_add_emod (x + y - 1) y
  have h0 := Int.emod_nonneg (x + y - 1) (show y ≠ 0 by omega)
  have h1 := Int.emod_lt_of_pos (x + y - 1) (show 0 < y by omega)
  have hL : ceilv x y = (x + y - 1) / y := rfl
  rw [← hL, Int.mul_comm] at e
  omega
theorem ceil_bounds {x y : Int} (hx : 0 ≤ x) (hy : 1 ≤ y) : 0 ≤ ceilv x y ∧ ceilv x y ≤ x := by
  have hs := ceil_spec (x := x) hy
  constructor
  · exact Int.ediv_nonneg (by omega) (by omega)
  · rcases Int.lt_or_le x (ceilv x y) with h | h
    · have h1 : x * 1 ≤ x * y := Int.mul_le_mul_of_nonneg_left hy hx
      have h2 : (x + 1) * y ≤ ceilv x y * y := Int.mul_le_mul_of_nonneg_right (by omega) (by omega)
      rw [Int.add_mul] at h2
      omega
    · exact h
theorem ceil_le {x y L : Int} (hy : 1 ≤ y) (h : x ≤ L * y) : ceilv x y ≤ L := by
  have hs := ceil_spec (x := x) hy
  have : (ceilv x y - 1) * y < L * y := by rw [Int.sub_mul]; omega
  have := Int.lt_of_mul_lt_mul_right this (by omega)
  omega
theorem upc (a b : Int) (ha : 0 ≤ a) (ha' : a ≤ 1125899906842624) (hb : 1 ≤ b) (hb' : b ≤ 1125899906842624) : ratio_Up.f a b = some (ceilv a b) := by
  rw [up_eq]
  congr 1
  unfold upv ceilv byv
  rw [cnt_id ha ha', cnt_id (n := b) (by omega) hb', show max 1 b = b by omega]
/-! ### the plan -/
def mayv (N W R K : Int) : Prop := 1 ≤ N ∧ N ≤ 1048576 ∧ 16 ≤ W ∧ W ≤ 256 ∧ 1 ≤ R ∧ R ≤ 4096 ∧ 1 ≤ K ∧ K ≤ 65536 ∧ N * W ≤ 4194304
instance (N W R K : Int) : Decidable (mayv N W R K) := by unfold mayv; infer_instance
theorem nw_small {N W : Int} (h1 : 1 ≤ N) (h2 : N ≤ 1048576) (h3 : 16 ≤ W) (h4 : W ≤ 256) : 16 ≤ N * W ∧ N * W ≤ 268435456 := by
  have a : 1 * 16 ≤ N * W := Int.mul_le_mul h1 h3 (by omega) (by omega)
  have b : N * W ≤ 1048576 * 256 := Int.mul_le_mul h2 h4 (by omega) (by omega)
  omega
theorem within_eq (n lo hi : Int) (_ : lo ≤ hi) : plan_within.f n lo hi = some (decide (lo ≤ n ∧ n ≤ hi)) := by
  unfold plan_within.f
  rw [clamp_eq]
  simp only [Option.bind_some]
  congr 1
  rw [Bool.eq_iff_iff, beq_iff_eq, decide_eq_true_eq]
  by_cases h1 : n > hi
  · rw [if_pos h1]; omega
  · rw [if_neg h1]
    by_cases h2 : n < lo
    · rw [if_pos h2]; omega
    · rw [if_neg h2]; omega
theorem check_eq (N W R K : Int) : plan_Check.f N W R K = some (if mayv N W R K then 0 else 1) := by
  unfold plan_Check.f
  simp only [within_eq _ 1 1048576 (by decide), within_eq _ 16 256 (by decide), within_eq _ 1 4096 (by decide), within_eq _ 1 65536 (by decide), Option.bind_some, decide_eq_true_eq]
  by_cases h1 : 1 ≤ N ∧ N ≤ 1048576
  · rw [if_pos h1]
    by_cases h2 : 16 ≤ W ∧ W ≤ 256
    · rw [if_pos h2]
      have := nw_small h1.1 h1.2 h2.1 h2.2
      rw [wrap64_id (by omega) (by omega)]
      by_cases h3 : 1 ≤ R ∧ R ≤ 4096
      · rw [if_pos h3]
        by_cases h4 : 1 ≤ K ∧ K ≤ 65536
        · rw [if_pos h4]
          by_cases h5 : N * W ≤ 4194304
          · rw [if_pos h5, if_pos (show mayv N W R K by unfold mayv; omega)]
          · rw [if_neg h5, if_neg (show ¬ mayv N W R K by unfold mayv; omega)]
        · rw [if_neg h4, if_neg (show ¬ mayv N W R K by unfold mayv; omega)]
      · rw [if_neg h3, if_neg (show ¬ mayv N W R K by unfold mayv; omega)]
    · rw [if_neg h2, if_neg (show ¬ mayv N W R K by unfold mayv; omega)]
  · rw [if_neg h1, if_neg (show ¬ mayv N W R K by unfold mayv; omega)]
def drainv (N W : Int) : Int := N * (W + 1)
def epochv (N W : Int) : Int := 3 * drainv N W + 4
def lagv (N W K : Int) : Int := 2 * ceilv (epochv N W) K + 2 * (W - 7)
def settlev (N W K : Int) : Int := ceilv (epochv N W + epochv N W + drainv N W) K + 2
def ofv (N W R K : Int) : Int × Int × Int × Int × Int × Int × Int × Int × Int :=
  if mayv N W R K then (24 + R + N * W, W - 8, W - 7, (W - 8) * (W - 1), epochv N W, drainv N W, lagv N W K, settlev N W K, 0) else (0, 0, 0, 0, 0, 0, 0, 0, 1)
theorem drain_bounds {N W R K : Int} (h : mayv N W R K) : 17 ≤ drainv N W ∧ drainv N W ≤ 5242880 ∧ drainv N W = N * W + N := by
  obtain ⟨a, b, c, d, _, _, _, _, e⟩ := h
  have := nw_small a b c d
  have e : drainv N W = N * W + N := by unfold drainv; rw [Int.mul_add]; omega
  omega
theorem of_eq (k : Nat) (hk : 200 ≤ k) (N W R K : Int) : plan_Of.f k N W R K = some (ofv N W R K) := by
  unfold plan_Of.f ofv
  rw [check_eq]
  simp only [Option.bind_some]
  by_cases h : mayv N W R K
  · simp only [if_pos h]
    rw [if_pos trivial]
    have hd := drain_bounds h
    obtain ⟨a, b, c, d, e, f, g, i, j⟩ := h
    have hs := nw_small a b c d
    have hf : (W - 8) * (W - 1) ≤ 248 * 255 := Int.mul_le_mul (by omega) (by omega) (by omega) (by omega)
    have hdr : N * (W + 1) = drainv N W := rfl
    have hep : 3 * drainv N W + 4 = epochv N W := rfl
    rw [wrap64_id (n := W - 8) (by omega) (by omega), wrap64_id (n := W - 1) (by omega) (by omega), wrap64_id (n := W + 1) (by omega) (by omega), wrap64_id (n := W - 8 + 1) (by omega) (by omega)]
    have c1 := ceil_bounds (x := epochv N W) (y := K) (by omega) g
    have c2 := ceil_bounds (x := epochv N W + epochv N W + drainv N W) (y := K) (by omega) g
    rw [mul2 k hk (a := N) (b := W) (by omega) (by omega) (by omega) (by omega) (by omega)]
    simp only [Option.bind_some]
    rw [add3 k hk (by omega) (by omega) (by omega) (by omega)]
    simp only [Option.bind_some]
    rw [mul2 k hk (a := W - 8) (b := W - 1) (by omega) (by omega) (by omega) (by omega) (by omega)]
    simp only [Option.bind_some]
    rw [mul2 k hk (a := N) (b := W + 1) (by omega) (by omega) (by omega) (by omega) (by omega), hdr]
    simp only [Option.bind_some]
    rw [mul2 k hk (a := 3) (b := drainv N W) (by omega) (by omega) (by omega) (by omega) (by omega)]
    simp only [Option.bind_some]
    rw [add2 k hk (by omega) (by omega) (by omega), hep]
    simp only [Option.bind_some]
    rw [upc _ _ (by omega) (by omega) g (by omega)]
    simp only [Option.bind_some]
    rw [mul2 k hk (a := 2) (b := ceilv (epochv N W) K) (by omega) (by omega) (by omega) (by omega) (by omega)]
    simp only [Option.bind_some]
    rw [show W - 8 + 1 = W - 7 by omega, mul2 k hk (a := 2) (b := W - 7) (by omega) (by omega) (by omega) (by omega) (by omega)]
    simp only [Option.bind_some]
    rw [add2 k hk (by omega) (by omega) (by omega)]
    simp only [Option.bind_some]
    rw [add3 k hk (by omega) (by omega) (by omega) (by omega)]
    simp only [Option.bind_some]
    rw [upc _ _ (by omega) (by omega) g (by omega)]
    simp only [Option.bind_some]
    rw [add2 k hk (by omega) (by omega) (by omega)]
    rfl
  · simp only [if_neg h]
    rw [if_neg (by decide)]
theorem has_eq (l : List Int) (m a : Int) : store_Store_has.f l m a = some (decide (0 ≤ a ∧ a < (l.length : Int))) := by
  unfold store_Store_has.f
  by_cases h : a ≥ 0
  · rw [if_pos h]; congr 1; exact decide_eq_decide.2 (by omega)
  · rw [if_neg h]; congr 1; exact (decide_eq_false (by omega)).symm
theorem put_eq (l : List Int) (m i w : Int) : store_Store_Put.f l m i w = some (if 0 ≤ i ∧ i < (l.length : Int) then (true, IntKind.u64.wrap (m + 1), l.set i.toNat w) else (false, m, l)) := by
  unfold store_Store_Put.f
  rw [has_eq]
  simp only [Option.bind_some, decide_eq_true_eq]
  by_cases h : 0 ≤ i ∧ i < (l.length : Int)
  · rw [if_pos h, if_pos h]
    simp only [atomic_Uint64_Add.f, Option.bind_some]
    rw [if_pos h.1, if_pos h.2]
  · rw [if_neg h, if_neg h]
theorem peek_eq (l : List Int) (m i : Int) : store_Store_Peek.f l m i = some (if 0 ≤ i ∧ i < (l.length : Int) then rd l i else 0) := by
  unfold store_Store_Peek.f
  rw [has_eq]
  simp only [Option.bind_some, decide_eq_true_eq]
  by_cases h : 0 ≤ i ∧ i < (l.length : Int)
  · rw [if_pos h, if_pos h, if_pos h.1, if_pos h.2]
  · rw [if_neg h, if_neg h]
theorem new_in (n : Int) (h0 : 0 ≤ n) (h1 : n ≤ 8388608) : store_New.f n = some (.inr (List.replicate n.toNat 0)) := by
  unfold store_New.f
  rw [if_neg (by omega), if_neg (by omega)]
  unfold M.mkLen
  rw [if_pos (by omega)]
  rfl
theorem new_out (n : Int) (h : n < 0 ∨ 8388608 < n) : store_New.f n = some (.inl ()) := by
  unfold store_New.f
  by_cases h0 : n < 0
  · rw [if_pos h0]
  · rw [if_neg h0, if_pos (by omega)]
theorem rd_nat (l : List Int) (j : Nat) (h : j < l.length) : rd l (j : Int) = l[j] := by
  simp [rd, List.getD_eq_getElem?_getD, List.getElem?_eq_getElem h]
theorem rd_set (l : List Int) (i j : Int) (x : Int) (h0 : 0 ≤ i) (h1 : i < (l.length : Int)) (h2 : 0 ≤ j) : rd (l.set i.toNat x) j = if i = j then x else rd l j := by
  simp only [rd, List.getD_eq_getElem?_getD, List.getElem?_set]
  by_cases h : i = j
  · subst h; rw [if_pos rfl, if_pos (show i.toNat < l.length by omega), if_pos rfl]; rfl
  · rw [if_neg (show ¬ i.toNat = j.toNat by omega), if_neg h]
theorem next_i (j : Nat) (h : j < 4611686018427387904) : wrap64 ((j : Int) + 1) = ((j + 1 : Nat) : Int) := by
  unfold wrap64; omega
theorem w0 : wrap64 0 = 0 := by unfold wrap64; decide
theorem mayW {N W R K : Int} (h : mayv N W R K) : 0 ≤ 24 + R + N * W ∧ 24 + R + N * W ≤ 8388608 := by
  have := nw_small h.1 h.2.1 h.2.2.1 h.2.2.2.1
  unfold mayv at h
  generalize N * W = q at *
  omega
/-- How many words a ground has. -/
def sizev (N W R : Int) : Nat := (24 + R + N * W).toNat
theorem size_cast {N W R K : Int} (h : mayv N W R K) : ((sizev N W R : Nat) : Int) = 24 + R + N * W := by
  unfold sizev; have := (mayW h).1; omega
theorem gnew_may (k : Nat) (hk : 200 ≤ k) (N W R K : Int) (h : mayv N W R K) : ground_New.f k N W R K = some (.inr (.inl (N, W, R, K, List.replicate (sizev N W R) 0))) := by
  unfold ground_New.f
  rw [of_eq k hk]
  unfold ofv
  simp only [Option.bind_some]
  rw [if_pos h]
  simp only [if_true]
  rw [new_in _ (mayW h).1 (mayW h).2]
  rfl
theorem gnew_not (k : Nat) (hk : 200 ≤ k) (N W R K : Int) (h : ¬ mayv N W R K) : ground_New.f k N W R K = some (.inr (.inr 1)) := by
  unfold ground_New.f
  rw [of_eq k hk]
  unfold ofv
  simp only [Option.bind_some]
  rw [if_neg h]
  rfl
def littlev (N W R : Int) : Prop := N ≤ 300 ∧ W ≤ 64 ∧ R ≤ 40
instance (N W R : Int) : Decidable (littlev N W R) := by unfold littlev; infer_instance
theorem within_in (i m f : Int) (h0 : 0 ≤ i) (h1 : i < m) : ground_within.f i m f = some (wrap64 (f + i)) := by
  unfold ground_within.f
  rw [if_neg (by omega), if_neg (by omega)]
theorem within_out (i m f : Int) (h : i < 0 ∨ m ≤ i) : ground_within.f i m f = some (-1) := by
  unfold ground_within.f
  by_cases h0 : i < 0
  · rw [if_pos h0]
  · rw [if_neg h0, if_pos (by omega)]
/-- Where a register, a root slot and a block's word are; none: there is none. -/
def regv (i : Int) : Option Nat := if 0 ≤ i ∧ i < 24 then some i.toNat else none
def rootv (R i : Int) : Option Nat := if 0 ≤ i ∧ i < R then some (24 + i).toNat else none
def wordv (N W R b w : Int) : Option Nat := if (0 ≤ b ∧ b < N) ∧ 0 ≤ w ∧ w < W then some (24 + R + b * W + w).toNat else none
def posv : Option Nat → Int
  | some n => n
  | none => -1
theorem bw_small {N W R K b : Int} (h : mayv N W R K) (h0 : 0 ≤ b) (h1 : b < N) : 0 ≤ b * W ∧ b * W + W ≤ N * W := by
  have hW : (0 : Int) ≤ W := by unfold mayv at h; omega
  constructor
  · exact Int.mul_nonneg h0 hW
  · have := Int.mul_le_mul_of_nonneg_right (show b + 1 ≤ N by omega) hW
    rw [Int.add_mul, Int.one_mul] at this
    exact this
theorem word_eq (l : List Int) (m N W R K b w : Int) (h : mayv N W R K) : ground_Ground_word.f l m N W R K b w = some (posv (wordv N W R b w)) := by
  unfold ground_Ground_word.f ground_Ground_Conf.f wordv
  simp only [Option.bind_some]
  by_cases hb : 0 ≤ b ∧ b < N
  · rw [within_in _ _ _ hb.1 hb.2]
    simp only [Option.bind_some]
    have hs := bw_small h hb.1 hb.2
    have hn := nw_small h.1 h.2.1 h.2.2.1 h.2.2.2.1
    unfold mayv at h
    rw [wrap64_id (n := 0 + b) (by omega) (by omega), if_neg (by omega), wrap64_id (n := 24 + R) (by omega) (by omega)]
    generalize b * W = q at *
    generalize N * W = t at *
    rw [wrap64_id (n := q) (by omega) (by omega), wrap64_id (n := 24 + R + q) (by omega) (by omega)]
    by_cases hw : 0 ≤ w ∧ w < W
    · rw [within_in _ _ _ hw.1 hw.2, if_pos ⟨hb, hw⟩, wrap64_id (by omega) (by omega)]
      simp only [Option.bind_some, posv]; congr 1; omega
    · rw [within_out _ _ _ (by omega), if_neg (fun h => hw h.2)]; rfl
  · rw [within_out _ _ _ (by omega), if_neg (fun h => hb h.1)]
    rfl
/-- What a ground of so many words does at a place. -/
theorem regv_lt {N W R K : Int} (h : mayv N W R K) {i : Int} {p : Nat} (hp : regv i = some p) : p < sizev N W R ∧ (p : Int) = i ∧ p < 24 := by
  unfold regv at hp
  split at hp
  · cases hp
    have := size_cast h
    have := (nw_small h.1 h.2.1 h.2.2.1 h.2.2.2.1)
    unfold mayv at h
    generalize N * W = q at *
    omega
  · cases hp
theorem rootv_lt {N W R K : Int} (h : mayv N W R K) {i : Int} {p : Nat} (hp : rootv R i = some p) : p < sizev N W R ∧ (p : Int) = 24 + i ∧ (p : Int) < 24 + R ∧ 24 ≤ p := by
  unfold rootv at hp
  split at hp
  · cases hp
    have := size_cast h
    have := (nw_small h.1 h.2.1 h.2.2.1 h.2.2.2.1)
    unfold mayv at h
    generalize N * W = q at *
    omega
  · cases hp
theorem wordv_lt {N W R K : Int} (h : mayv N W R K) {b w : Int} {p : Nat} (hp : wordv N W R b w = some p) : p < sizev N W R ∧ (p : Int) = 24 + R + b * W + w ∧ 24 + R ≤ (p : Int) ∧ 0 ≤ w ∧ w < W ∧ 0 ≤ b ∧ b < N := by
  unfold wordv at hp
  split at hp
  · next hc =>
    cases hp
    have := size_cast h
    have hs := bw_small h hc.1.1 hc.1.2
    unfold mayv at h
    generalize b * W = q at *
    generalize N * W = t at *
    omega
  · cases hp
/-- What is got at a place, and the meter then. -/
def sgetv (l : List Int) (m : Int) (p : Option Nat) : Int × Int := match p with
  | some n => (rd l (n : Int), IntKind.u64.wrap (m + 1))
  | none => (0, m)
def sputv (l : List Int) (m : Int) (p : Option Nat) (v : Int) : Bool × Int × List Int := match p with
  | some n => (true, IntKind.u64.wrap (m + 1), l.set n v)
  | none => (false, m, l)
theorem sput_eq (l : List Int) (m : Int) (p : Option Nat) (v : Int) (hp : ∀ n, p = some n → n < l.length) : store_Store_Put.f l m (posv p) v = some (sputv l m p v) := by
  rw [put_eq]
  cases p with
  | none => rw [if_neg (by simp [posv])]; rfl
  | some n => have := hp n rfl; rw [if_pos (by simp [posv]; omega)]; simp [sputv, posv]
/-- A ground that may be: so many words, each of 32 bits. -/
structure OK (N W R K : Int) (l : List Int) : Prop where
  may : mayv N W R K
  len : l.length = sizev N W R
  u32 : ∀ i : Nat, 0 ≤ rd l (i : Int) ∧ rd l (i : Int) < 4294967296
theorem rd_out (l : List Int) (i : Nat) (h : l.length ≤ i) : rd l (i : Int) = 0 := by
  simp [rd, List.getD_eq_getElem?_getD, List.getElem?_eq_none h]
theorem rd_setN (l : List Int) (i j : Nat) (x : Int) (h : i < l.length) : rd (l.set i x) (j : Int) = if i = j then x else rd l (j : Int) := by
  have := rd_set l (i : Int) (j : Int) x (by omega) (by omega) (by omega)
  simp only [Int.toNat_natCast] at this
  rw [this]
  by_cases h : i = j
  · rw [if_pos (by omega), if_pos h]
  · rw [if_neg (by omega), if_neg h]
theorem OK.set {N W R K : Int} {l : List Int} (h : OK N W R K l) (n : Nat) (v : Int) (h0 : 0 ≤ v) (h1 : v < 4294967296) : OK N W R K (l.set n v) := by
  refine ⟨h.may, by rw [List.length_set]; exact h.len, fun i => ?_⟩
  rcases Nat.lt_or_ge n l.length with hn | hn
  · rw [rd_setN l n i v hn]
    split
    · exact ⟨h0, h1⟩
    · exact h.u32 i
  · rw [List.set_eq_of_length_le hn]; exact h.u32 i
theorem OK.zero {N W R K : Int} (h : mayv N W R K) : OK N W R K (List.replicate (sizev N W R) 0) := by
  refine ⟨h, by simp, fun i => ?_⟩
  have : rd (List.replicate (sizev N W R) (0 : Int)) (i : Int) = 0 := by
    simp only [rd, List.getD_eq_getElem?_getD, List.getElem?_replicate, Int.toNat_natCast]
    split <;> rfl
  rw [this]; decide
theorem OK.small {N W R K : Int} {l : List Int} (h : OK N W R K l) : l.length ≤ 8388608 := by
  have := size_cast h.may
  have := mayW h.may
  have := h.len
  omega
theorem SetWord_eq {N W R K : Int} {l : List Int} (h : OK N W R K l) (m b w v : Int) : ground_Ground_SetWord.f l m N W R K b w v = some (sputv l m (wordv N W R b w) v) := by
  unfold ground_Ground_SetWord.f ground_Ground_all.f
  simp only [Option.bind_some]
  rw [word_eq l m N W R K b w h.may]
  simp only [Option.bind_some]
  rw [sput_eq l m _ v (fun n hn => by rw [h.len]; exact (wordv_lt h.may hn).1)]
  rfl
theorem mul_apart {W b c v w : Int} (hv : 0 ≤ v) (hv' : v < W) (hw : 0 ≤ w) (hw' : w < W) (h : b * W + v = c * W + w) : b = c ∧ v = w := by
  have hb : b = c := by
    rcases Int.lt_trichotomy b c with h1 | h1 | h1
    · have := Int.mul_le_mul_of_nonneg_right (show b + 1 ≤ c by omega) (show 0 ≤ W by omega)
      rw [Int.add_mul, Int.one_mul] at this
      omega
    · exact h1
    · have := Int.mul_le_mul_of_nonneg_right (show c + 1 ≤ b by omega) (show 0 ≤ W by omega)
      rw [Int.add_mul, Int.one_mul] at this
      omega
  subst hb
  exact ⟨rfl, by omega⟩

/-- popcount -/
def pc : Nat → Nat
  | 0 => 0
  | n + 1 => (n + 1) % 2 + pc ((n + 1) / 2)
termination_by n => n
decreasing_by omega

theorem pc_eq (n : Nat) : pc n = n % 2 + pc (n / 2) := by
  cases n with
  | zero => simp [pc]
  | succ n => rw [pc]

theorem and_pred_even (y : Nat) (h : 0 < y) : (2 * y) &&& (2 * y - 1) = 2 * (y &&& (y - 1)) := by
  have e : 2 * y - 1 = 2 * (y - 1) + 1 := by omega
  rw [e]
  apply Nat.eq_of_testBit_eq
  intro i
  cases i with
  | zero => simp [Nat.testBit_zero]
  | succ i =>
    rw [Nat.testBit_and, Nat.testBit_succ, Nat.testBit_succ, Nat.testBit_succ, show 2 * y / 2 = y by omega, show (2 * (y - 1) + 1) / 2 = y - 1 by omega, show 2 * (y &&& (y - 1)) / 2 = y &&& (y - 1) by omega, Nat.testBit_and]
theorem and_pred_odd (y : Nat) : (2 * y + 1) &&& (2 * y) = 2 * y := by
  apply Nat.eq_of_testBit_eq
  intro i
  cases i with
  | zero => simp [Nat.testBit_zero]
  | succ i =>
    rw [Nat.testBit_and, Nat.testBit_succ, Nat.testBit_succ, show 2 * y / 2 = y by omega, show (2 * y + 1) / 2 = y by omega, Bool.and_self]
theorem pc_double (n : Nat) : pc (2 * n) = pc n := by
  rw [pc_eq]; simp
theorem pc_double1 (n : Nat) : pc (2 * n + 1) = pc n + 1 := by
  rw [pc_eq, show (2 * n + 1) % 2 = 1 by omega, show (2 * n + 1) / 2 = n by omega]; omega
theorem pc_and_pred : ∀ n : Nat, 0 < n → pc (n &&& (n - 1)) + 1 = pc n := by
  intro n
  induction n using Nat.strongRecOn with
  | _ n ih =>
    intro h
    rcases Nat.mod_two_eq_zero_or_one n with e | e
    · obtain ⟨y, rfl⟩ : ∃ y, n = 2 * y := ⟨n / 2, by omega⟩
      rw [and_pred_even y (by omega), pc_double, pc_double, ih y (by omega) (by omega)]
    · obtain ⟨y, rfl⟩ : ∃ y, n = 2 * y + 1 := ⟨n / 2, by omega⟩
      rw [show 2 * y + 1 - 1 = 2 * y by omega, and_pred_odd, pc_double, pc_double1]
theorem and_pred_lt (n : Nat) (h : 0 < n) : n &&& (n - 1) < n := by
  have := @Nat.and_le_right n (n - 1)
  omega
theorem pc_pow (k n : Nat) (h : n < 2 ^ k) : pc n ≤ k := by
  induction k generalizing n with
  | zero => simp at h; subst h; simp [pc]
  | succ k ih =>
    rw [pc_eq]
    have := ih (n / 2) (by rw [Nat.pow_succ] at h; omega)
    omega

theorem u32_and (a b : Nat) (ha : a < 2 ^ 32) (hb : b < 2 ^ 32) : bits .and .u32 a b = ((a &&& b : Nat) : Int) :=
  (bits_nat .u32 32 (by decide) (fun n h0 h1 => by rw [IntKind.wrap_u32]; omega) a b ha hb).1
theorem u32_or (a b : Nat) (ha : a < 2 ^ 32) (hb : b < 2 ^ 32) : bits .or .u32 a b = ((a ||| b : Nat) : Int) :=
  (bits_nat .u32 32 (by decide) (fun n h0 h1 => by rw [IntKind.wrap_u32]; omega) a b ha hb).2

def getN (w a n : Nat) : Nat := w / 2 ^ a % 2 ^ n
def putN (w a n v : Nat) : Nat := 2 ^ a * (2 ^ n * (w / 2 ^ (a + n)) + v) + w % 2 ^ a

theorem getN_bit (w a n j : Nat) : (getN w a n).testBit j = (decide (j < n) && w.testBit (a + j)) := by
  unfold getN; rw [Nat.testBit_mod_two_pow, Nat.testBit_div_two_pow, Nat.add_comm]
theorem getN_lt (w a n : Nat) : getN w a n < 2 ^ n := Nat.mod_lt _ (Nat.two_pow_pos n)
theorem putN_bit (w a n v j : Nat) (hv : v < 2 ^ n) : (putN w a n v).testBit j = if j < a then w.testBit j else if j < a + n then v.testBit (j - a) else w.testBit j := by
  unfold putN
  rw [Nat.testBit_two_pow_mul_add _ (Nat.mod_lt _ (Nat.two_pow_pos a))]
  split
  · rename_i h; rw [Nat.testBit_mod_two_pow]; simp [h]
  · rename_i h
    rw [Nat.testBit_two_pow_mul_add _ hv]
    by_cases h2 : j < a + n
    · rw [if_pos (by omega), if_pos h2]
    · rw [if_neg (by omega), if_neg h2, Nat.testBit_div_two_pow]; congr 1; omega
theorem bit_big {v n j : Nat} (hv : v < 2 ^ n) (h : n ≤ j) : v.testBit j = false := Nat.testBit_lt_two_pow (Nat.lt_of_lt_of_le hv (Nat.pow_le_pow_right (by decide) h))
theorem putN_lt (w a n v m : Nat) (hv : v < 2 ^ n) (hw : w < 2 ^ m) (h : a + n ≤ m) : putN w a n v < 2 ^ m := by
  apply Nat.lt_pow_two_of_testBit
  intro j hj
  rw [putN_bit _ _ _ _ _ hv, if_neg (by omega), if_neg (by omega)]
  exact bit_big hw hj
theorem get_put (w a n v : Nat) (hv : v < 2 ^ n) : getN (putN w a n v) a n = v := by
  apply Nat.eq_of_testBit_eq
  intro j
  rw [getN_bit, putN_bit _ _ _ _ _ hv]
  by_cases h : j < n
  · rw [if_neg (by omega), if_pos (by omega)]; simp [h]
  · simp [h, bit_big hv (show n ≤ j by omega)]
theorem get_put_other (w a n v b m : Nat) (hv : v < 2 ^ n) (h : a + n ≤ b ∨ b + m ≤ a) : getN (putN w a n v) b m = getN w b m := by
  apply Nat.eq_of_testBit_eq
  intro j
  rw [getN_bit, getN_bit, putN_bit _ _ _ _ _ hv]
  by_cases hj : j < m
  · rcases h with h | h
    · rw [if_neg (by omega), if_neg (by omega)]
    · rw [if_pos (by omega)]
  · simp [hj]
theorem put_get (w a n v : Nat) (hv : v < 2 ^ n) : putN (putN w a n v) a n (getN w a n) = w := by
  apply Nat.eq_of_testBit_eq
  intro j
  rw [putN_bit _ _ _ _ _ (getN_lt _ _ _), putN_bit _ _ _ _ _ hv, getN_bit]
  by_cases h1 : j < a
  · simp [h1]
  · by_cases h2 : j < a + n
    · simp [h1, h2, show j - a < n by omega, show a + (j - a) = j by omega]
    · simp [h1, h2]
theorem and_mask (w a n : Nat) : w &&& ((2 ^ n - 1) * 2 ^ a) = getN w a n * 2 ^ a := by
  apply Nat.eq_of_testBit_eq
  intro j
  rw [Nat.testBit_and, Nat.testBit_mul_two_pow, Nat.testBit_mul_two_pow, getN_bit, Nat.testBit_two_pow_sub_one]
  by_cases h : a ≤ j
  · simp [h, show a + (j - a) = j by omega, Bool.and_comm]
  · simp [h]
theorem put_sum (w a n v : Nat) : putN w a n v + getN w a n * 2 ^ a = w + v * 2 ^ a := by
  unfold putN getN
  have h1 : w / 2 ^ (a + n) = w / 2 ^ a / 2 ^ n := by rw [Nat.pow_add, Nat.div_div_eq_div_mul]
  rw [h1]
  have h2 := Nat.div_add_mod w (2 ^ a)
  have h3 := Nat.div_add_mod (w / 2 ^ a) (2 ^ n)
  generalize w % 2 ^ a = m at *
  generalize w / 2 ^ a = q at *
  generalize q / 2 ^ n = p at *
  generalize q % 2 ^ n = r at *
  rw [← h2, ← h3, Nat.mul_add, Nat.mul_add, Nat.mul_comm r, Nat.mul_comm v]
  omega
/-- What Go's Put computes: the bits that are not the piece's, and v. -/
theorem put_bits (w a n v : Nat) (hw : w < 2 ^ 32) (hv : v < 2 ^ n) (h : a + n ≤ 32) :
    bits .or .u32 (bits .andNot .u32 w (((2 ^ n - 1) * 2 ^ a : Nat) : Int)) ((v * 2 ^ a : Nat) : Int) = ((putN w a n v : Nat) : Int) := by
  have hva : v * 2 ^ a < 2 ^ 32 := Nat.lt_of_lt_of_le (Nat.mul_lt_mul_of_pos_right hv (Nat.two_pow_pos a)) (by rw [← Nat.pow_add]; exact Nat.pow_le_pow_right (by decide) (by omega))
  have hma : (2 ^ n - 1) * 2 ^ a < 2 ^ 32 := Nat.lt_of_lt_of_le (Nat.mul_lt_mul_of_pos_right (Nat.sub_lt (Nat.two_pow_pos n) (by decide)) (Nat.two_pow_pos a)) (by rw [← Nat.pow_add]; exact Nat.pow_le_pow_right (by decide) (by omega))
  have e1 : bits .andNot .u32 (w : Int) (((2 ^ n - 1) * 2 ^ a : Nat) : Int) = (((BitVec.ofNat 32 w &&& ~~~ (BitVec.ofNat 32 ((2 ^ n - 1) * 2 ^ a))).toNat : Nat) : Int) := by
    have e : ∀ x : BitVec 32, IntKind.u32.wrap (x.toNat : Int) = ((x.toNat : Nat) : Int) := fun x => by
      rw [IntKind.wrap_u32]
      have := x.isLt
      omega
    simp only [bits, BitVec.ofInt_natCast]
    exact e _
  rw [e1, (bits_nat .u32 32 (by decide) (fun n h0 h1 => by rw [IntKind.wrap_u32]; omega) _ _ (BitVec.isLt _) hva).2]
  congr 1
  apply Nat.eq_of_testBit_eq
  intro j
  rw [Nat.testBit_or, BitVec.testBit_toNat, BitVec.getLsbD_and, BitVec.getLsbD_not, BitVec.getLsbD_ofNat, BitVec.getLsbD_ofNat, putN_bit _ _ _ _ _ hv, Nat.testBit_mul_two_pow, Nat.testBit_mul_two_pow, Nat.testBit_two_pow_sub_one]
  by_cases h32 : j < 32
  · by_cases h1 : j < a
    · simp [h32, h1, show ¬ a ≤ j by omega]
    · by_cases h2 : j < a + n
      · simp [h32, h1, h2, show a ≤ j by omega, show j - a < n by omega]
      · simp [h32, h1, h2, show a ≤ j by omega, show ¬ j - a < n by omega, bit_big hv (show n ≤ j - a by omega)]
  · simp [h32, show ¬ j < a by omega, show ¬ j < a + n by omega, show a ≤ j by omega, bit_big hv (show n ≤ j - a by omega), bit_big hw (show 32 ≤ j by omega)]
theorem w64 {n : Int} (h0 : 0 ≤ n) (h1 : n < 18446744073709551616) : IntKind.u64.wrap n = n := by rw [IntKind.wrap_u64]; omega
theorem two_le {a b : Nat} (h : a ≤ b) : 2 ^ a ≤ 2 ^ b := Nat.pow_le_pow_right (by decide) h
def piecev (at_ n : Int) : Prop := 0 ≤ at_ ∧ 1 ≤ n ∧ n ≤ 32 ∧ at_ ≤ 32 - n
instance (a n : Int) : Decidable (piecev a n) := by unfold piecev; infer_instance
theorem isPiece_eq (a n : Int) : pack_isPiece.f a n = some (decide (piecev a n)) := by
  unfold pack_isPiece.f
  by_cases h1 : a ≥ 0
  · rw [if_pos h1]
    by_cases h2 : n ≥ 1
    · rw [if_pos h2]
      by_cases h3 : n ≤ 32
      · rw [if_pos h3, wrap64_id (by omega) (by omega)]; congr 1; exact decide_eq_decide.2 (by unfold piecev; omega)
      · rw [if_neg h3]; congr 1; exact (decide_eq_false (by unfold piecev; omega)).symm
    · rw [if_neg h2]; congr 1; exact (decide_eq_false (by unfold piecev; omega)).symm
  · rw [if_neg h1]; congr 1; exact (decide_eq_false (by unfold piecev; omega)).symm
def capv (n : Int) : Nat := min n.toNat 32
def fitsv (v : Nat) (n : Int) : Prop := v < 2 ^ capv n
instance (v : Nat) (n : Int) : Decidable (fitsv v n) := by unfold fitsv; infer_instance
theorem mask_all : ∀ n < 33, ∀ a < 33, 1 ≤ n → a + n ≤ 32 → pack_mask.f (a : Nat) (n : Nat) = some (((2 ^ n - 1) * 2 ^ a : Nat) : Int) := by decide +kernel
theorem pget_eq (w : Nat) (hw : w < 4294967296) (a n : Int) : pack_Get.f w a n = some (if piecev a n then ((getN w a.toNat n.toNat : Nat) : Int) else 0) := by
  unfold pack_Get.f
  rw [isPiece_eq]
  simp only [Option.bind_some, decide_eq_true_eq]
  by_cases h : piecev a n
  · rw [if_pos h, if_pos h]
    obtain ⟨h1, h2, h3, h4⟩ := h
    obtain ⟨a, rfl⟩ := Int.eq_ofNat_of_zero_le h1
    obtain ⟨n, rfl⟩ := Int.eq_ofNat_of_zero_le (show 0 ≤ n by omega)
    have hmask : (2 ^ n - 1) * 2 ^ a < 2 ^ 32 := Nat.lt_of_lt_of_le (Nat.mul_lt_mul_of_pos_right (Nat.sub_lt (Nat.two_pow_pos n) (by decide)) (Nat.two_pow_pos a)) (by rw [← Nat.pow_add]; exact Nat.pow_le_pow_right (by decide) (by omega))
    rw [mask_all n (by omega) a (by omega) (by omega) (by omega)]
    simp only [Option.bind_some]
    rw [w64 (by omega) (by omega), if_pos (by omega), u32_and w _ (by omega) hmask, and_mask]
    simp only [Int.toNat_natCast]
    congr 1
    have e : (2 : Int) ^ min a 32 = ((2 ^ a : Nat) : Int) := by rw [Int.natCast_pow, show min a 32 = a by omega]; rfl
    rw [e, ← Int.natCast_ediv, Nat.mul_div_cancel _ (Nat.two_pow_pos a)]
  · rw [if_neg h, if_neg h]
def putv (w : Nat) (a n : Int) (v : Nat) : Int × Int := if piecev a n then (if fitsv v n then (((putN w a.toNat n.toNat v : Nat) : Int), 0) else (0, 15)) else (0, 2)
theorem one_eq (a n w : Nat) (hw : w < 4294967296) (hn : 1 ≤ n) (h : a + n ≤ 32) : tag_Unpack_1.f a n w = some ((w / 2 ^ a % 2 ^ n : Nat) : Int) := by
  unfold tag_Unpack_1.f
  rw [pget_eq w hw, if_pos (by unfold piecev; omega)]
  simp only [Option.bind_some, Int.toNat_natCast]
  unfold getN
  have h1 : w / 2 ^ a % 2 ^ n ≤ w / 2 ^ a := Nat.mod_le _ _
  have h2 : w / 2 ^ a ≤ w := Nat.div_le_self _ _
  rw [wrap64_id (by omega) (by omega)]
theorem unpack_eq (w : Nat) (hw : w < 4294967296) : tag_Unpack.f (w : Int) = some (((w % 4 : Nat) : Int), ((w / 4 % 2 : Nat) : Int), ((w / 8 % 2 : Nat) : Int), ((w / 16 % 2 : Nat) : Int), ((w / 32 % 2 : Nat) : Int), ((w / 64 % 2 : Nat) : Int), ((w / 256 : Nat) : Int)) := by
  unfold tag_Unpack.f
  have e0 := one_eq 0 2 w hw (by decide) (by decide)
  have e1 := one_eq 2 1 w hw (by decide) (by decide)
  have e2 := one_eq 3 1 w hw (by decide) (by decide)
  have e3 := one_eq 4 1 w hw (by decide) (by decide)
  have e4 := one_eq 5 1 w hw (by decide) (by decide)
  have e5 := one_eq 6 1 w hw (by decide) (by decide)
  have e6 := one_eq 8 24 w hw (by decide) (by decide)
  have z0 : w / 2 ^ 0 % 2 ^ 2 = w % 4 := by simp
  have z6 : w / 2 ^ 8 % 2 ^ 24 = w / 256 := by omega
  rw [z0] at e0
  rw [z6] at e6
  rw [show tag_Unpack_1.f 0 2 (w : Int) = _ from e0, show tag_Unpack_1.f 2 1 (w : Int) = _ from e1, show tag_Unpack_1.f 3 1 (w : Int) = _ from e2, show tag_Unpack_1.f 4 1 (w : Int) = _ from e3, show tag_Unpack_1.f 5 1 (w : Int) = _ from e4, show tag_Unpack_1.f 6 1 (w : Int) = _ from e5, show tag_Unpack_1.f 8 24 (w : Int) = _ from e6]
  rfl
/-- The place of a block's link word. -/
def linkp (W R b : Int) : Nat := (24 + R + b * W + 5).toNat
def link (W R : Int) (l : List Int) (b : Int) : Int := rd l (linkp W R b : Int)
theorem linkp_eq {N W R K : Int} (h : mayv N W R K) {b : Int} (hb : 0 ≤ b ∧ b < N) : wordv N W R b 5 = some (linkp W R b) := by
  unfold wordv linkp
  rw [if_pos ⟨hb, by decide, by have := h.2.2.1; omega⟩]
theorem linkp_lt {N W R K : Int} (h : mayv N W R K) {b : Int} (hb : 0 ≤ b ∧ b < N) : linkp W R b < sizev N W R ∧ 24 ≤ linkp W R b := by
  have := wordv_lt h (linkp_eq h hb)
  have hR := h.2.2.2.2.1
  omega
theorem linkp_inj {N W R K : Int} (h : mayv N W R K) {b c : Int} (hb : 0 ≤ b ∧ b < N) (hc : 0 ≤ c ∧ c < N) (e : linkp W R b = linkp W R c) : b = c := by
  have h1 := wordv_lt h (linkp_eq h hb)
  have h2 := wordv_lt h (linkp_eq h hc)
  have hW := h.2.2.1
  exact (mul_apart (W := W) (v := 5) (w := 5) (by decide) (by omega) (by decide) (by omega) (b := b) (c := c) (by omega)).1
theorem link_set {N W R K : Int} (h : mayv N W R K) {l : List Int} (hl : l.length = sizev N W R) {b c v : Int} (hb : 0 ≤ b ∧ b < N) (hc : 0 ≤ c ∧ c < N) : link W R (l.set (linkp W R b) v) c = if b = c then v else link W R l c := by
  unfold link
  rw [rd_setN _ _ _ _ (by rw [hl]; exact (linkp_lt h hb).1)]
  by_cases e : b = c
  · rw [if_pos (by rw [e]), if_pos e]
  · rw [if_neg (fun q => e (linkp_inj h hb hc q)), if_neg e]
theorem reg_link {N W R K : Int} (h : mayv N W R K) {l : List Int} (hl : l.length = sizev N W R) {b v : Int} (hb : 0 ≤ b ∧ b < N) {i : Nat} (hi : i < 24) : rd (l.set (linkp W R b) v) (i : Int) = rd l (i : Int) := by
  rw [rd_setN _ _ _ _ (by rw [hl]; exact (linkp_lt h hb).1), if_neg (by have := (linkp_lt h hb).2; omega)]
theorem size24 {N W R K : Int} (h : mayv N W R K) : 24 ≤ sizev N W R := by
  have := size_cast h
  have := nw_small h.1 h.2.1 h.2.2.1 h.2.2.2.1
  have hR := h.2.2.2.2.1
  generalize N * W = q at *
  omega
theorem link_reg {N W R K : Int} (h : mayv N W R K) {l : List Int} (hl : l.length = sizev N W R) {c v : Int} (hc : 0 ≤ c ∧ c < N) {i : Nat} (hi : i < 24) : link W R (l.set i v) c = link W R l c := by
  unfold link
  rw [rd_setN _ _ _ _ (by have := size24 h; omega), if_neg (by have := (linkp_lt h hc).2; omega)]
theorem reg_reg {N W R K : Int} (h : mayv N W R K) {l : List Int} (hl : l.length = sizev N W R) {v : Int} {i j : Nat} (hi : i < 24) : rd (l.set i v) (j : Int) = if i = j then v else rd l (j : Int) := by
  rw [rd_setN _ _ _ _ (by have := size24 h; omega)]
/-- So many accesses at most. -/
def Acc (c : Nat) (m m' : Int) : Prop := ∃ d : Nat, d ≤ c ∧ IntKind.u64.wrap m' = IntKind.u64.wrap (m + (d : Int))
theorem wrapu (n : Int) : IntKind.u64.wrap n = n % 18446744073709551616 := by
  unfold IntKind.wrap; simp [IntKind.signed, IntKind.bits]
theorem Acc.refl (c : Nat) (m : Int) : Acc c m m := ⟨0, Nat.zero_le _, by simp⟩
theorem Acc.step {c : Nat} {m m' : Int} (h : Acc c m m') : Acc (c + 1) m (IntKind.u64.wrap (m' + 1)) := by
  obtain ⟨d, hd, e⟩ := h
  refine ⟨d + 1, by omega, ?_⟩
  rw [wrapu, wrapu] at e
  rw [wrapu, wrapu, wrapu]
  omega
theorem Acc.trans {c d : Nat} {m m' m'' : Int} (h : Acc c m m') (k : Acc d m' m'') : Acc (c + d) m m'' := by
  obtain ⟨a, ha, e⟩ := h
  obtain ⟨b, hb, f⟩ := k
  refine ⟨a + b, by omega, ?_⟩
  rw [wrapu, wrapu] at e f
  rw [wrapu, wrapu]
  omega
theorem Acc.mono {c d : Nat} {m m' : Int} (h : Acc c m m') (hcd : c ≤ d) : Acc d m m' := by
  obtain ⟨a, ha, e⟩ := h
  exact ⟨a, by omega, e⟩
theorem Acc.sub {c : Nat} {m m' : Int} (h : Acc c m m') (hc : c < 1000000) : IntKind.u64.wrap (m' - m) ≤ (c : Int) := by
  obtain ⟨a, ha, e⟩ := h
  rw [wrapu, wrapu] at e
  rw [wrapu]
  omega
/-- The place of a block's word. -/
def wp (W R b w : Int) : Nat := (24 + R + b * W + w).toNat
def word (W R : Int) (l : List Int) (b w : Int) : Int := rd l (wp W R b w : Int)
theorem wp_eq {N W R K : Int} (h : mayv N W R K) {b w : Int} (hb : 0 ≤ b ∧ b < N) (hw : 0 ≤ w ∧ w < W) : wordv N W R b w = some (wp W R b w) := by
  unfold wordv wp
  rw [if_pos ⟨hb, hw⟩]
theorem wp_lt {N W R K : Int} (h : mayv N W R K) {b w : Int} (hb : 0 ≤ b ∧ b < N) (hw : 0 ≤ w ∧ w < W) : wp W R b w < sizev N W R ∧ 24 ≤ wp W R b w := by
  have := wordv_lt h (wp_eq h hb hw)
  have hR := h.2.2.2.2.1
  omega
theorem wp_inj {N W R K : Int} (h : mayv N W R K) {b c v w : Int} (hb : 0 ≤ b ∧ b < N) (hc : 0 ≤ c ∧ c < N) (hv : 0 ≤ v ∧ v < W) (hw : 0 ≤ w ∧ w < W) (e : wp W R b v = wp W R c w) : b = c ∧ v = w := by
  have h1 := wordv_lt h (wp_eq h hb hv)
  have h2 := wordv_lt h (wp_eq h hc hw)
  exact mul_apart (W := W) hv.1 hv.2 hw.1 hw.2 (b := b) (c := c) (by omega)
theorem word_set {N W R K : Int} (h : mayv N W R K) {l : List Int} (hl : l.length = sizev N W R) {b c v w x : Int} (hb : 0 ≤ b ∧ b < N) (hc : 0 ≤ c ∧ c < N) (hv : 0 ≤ v ∧ v < W) (hw : 0 ≤ w ∧ w < W) : word W R (l.set (wp W R b v) x) c w = if b = c ∧ v = w then x else word W R l c w := by
  unfold word
  rw [rd_setN _ _ _ _ (by rw [hl]; exact (wp_lt h hb hv).1)]
  by_cases e : b = c ∧ v = w
  · rw [if_pos (by rw [e.1, e.2]), if_pos e]
  · rw [if_neg (fun q => e (wp_inj h hb hc hv hw q)), if_neg e]
theorem reg_word {N W R K : Int} (h : mayv N W R K) {l : List Int} (hl : l.length = sizev N W R) {b v x : Int} (hb : 0 ≤ b ∧ b < N) (hv : 0 ≤ v ∧ v < W) {i : Nat} (hi : i < 24) : rd (l.set (wp W R b v) x) (i : Int) = rd l (i : Int) := by
  rw [rd_setN _ _ _ _ (by rw [hl]; exact (wp_lt h hb hv).1), if_neg (by have := (wp_lt h hb hv).2; omega)]
theorem word_reg {N W R K : Int} (h : mayv N W R K) {l : List Int} (hl : l.length = sizev N W R) {c v x : Int} (hc : 0 ≤ c ∧ c < N) (hv : 0 ≤ v ∧ v < W) {i : Nat} (hi : i < 24) : word W R (l.set i x) c v = word W R l c v := by
  unfold word
  rw [rd_setN _ _ _ _ (by have := size24 h; omega), if_neg (by have := (wp_lt h hc hv).2; omega)]
theorem five {N W R K : Int} (h : mayv N W R K) : (0 : Int) ≤ 5 ∧ 5 < W := by have := h.2.2.1; omega
/-- What a chain's operations leave as it was. -/
structure Fram (N W R : Int) (r : Nat) (l l' : List Int) : Prop where
  regs : ∀ i : Nat, i < 24 → (i < r ∨ r + 2 < i) → rd l' (i : Int) = rd l (i : Int)
  words : ∀ b w : Int, 0 ≤ b ∧ b < N → 0 ≤ w ∧ w < W → w ≠ 5 → word W R l' b w = word W R l b w
theorem Fram.refl {N W R : Int} {r : Nat} (l : List Int) : Fram N W R r l l := ⟨fun _ _ _ => rfl, fun _ _ _ _ _ => rfl⟩
theorem Fram.reg {N W R K : Int} (h : mayv N W R K) {r i : Nat} {l m : List Int} (hl : m.length = sizev N W R) (hi : i < 24 ∧ r ≤ i ∧ i ≤ r + 2) {v : Int} (hf : Fram N W R r l m) : Fram N W R r l (m.set i v) :=
  ⟨fun j hj hd => by rw [reg_reg h hl hi.1, if_neg (by omega)]; exact hf.regs j hj hd, fun b w hb hw hn => by rw [word_reg h hl hb hw hi.1]; exact hf.words b w hb hw hn⟩
theorem Fram.link {N W R K : Int} (h : mayv N W R K) {r : Nat} {l m : List Int} (hl : m.length = sizev N W R) {b v : Int} (hb : 0 ≤ b ∧ b < N) (hf : Fram N W R r l m) : Fram N W R r l (m.set (linkp W R b) v) :=
  ⟨fun j hj hd => by rw [reg_link h hl hb hj]; exact hf.regs j hj hd, fun c w hc hw hn => by
    have := word_set h hl (x := v) hb hc (five h) hw
    rw [if_neg (fun q => hn q.2.symm)] at this
    exact this.trans (hf.words c w hc hw hn)⟩
/-- A word is set that is no link of a chain's block. -/
theorem link_word {N W R K : Int} (h : mayv N W R K) {l : List Int} (hl : l.length = sizev N W R) {b c v x : Int} (hb : 0 ≤ b ∧ b < N) (hc : 0 ≤ c ∧ c < N) (hv : 0 ≤ v ∧ v < W) : link W R (l.set (wp W R b v) x) c = if b = c ∧ v = 5 then x else link W R l c := word_set h hl hb hc hv (five h)
/-- The blocks hang together by their links. -/
def Linked (W R : Int) (l : List Int) : List Int → Prop
  | [] => True
  | [a] => link W R l a = 0
  | a :: b :: r => link W R l a = b + 1 ∧ Linked W R l (b :: r)
theorem Linked.same {W R : Int} {l l' : List Int} : ∀ {L : List Int}, (∀ x ∈ L, link W R l' x = link W R l x) → Linked W R l L → Linked W R l' L
  | [], _, _ => trivial
  | [a], h, hL => by
    show link W R l' a = 0
    rw [h a (by simp)]; exact hL
  | a :: b :: r, h, hL => ⟨by rw [h a (by simp)]; exact hL.1, Linked.same (L := b :: r) (fun x hx => h x (by simp at hx ⊢; right; exact hx)) hL.2⟩
theorem Linked.tail {W R : Int} {l : List Int} {a : Int} : ∀ {L : List Int}, Linked W R l (a :: L) → Linked W R l L
  | [], _ => trivial
  | _ :: _, h => h.2
def headv : List Int → Int
  | [] => 0
  | a :: _ => a + 1
def lastv : List Int → Int
  | [] => 0
  | [a] => a + 1
  | _ :: b :: r => lastv (b :: r)
theorem lastv_snoc (b : Int) : ∀ L : List Int, lastv (L ++ [b]) = b + 1
  | [] => rfl
  | [_] => rfl
  | _ :: c :: r => lastv_snoc b (c :: r)
/-- One more behind: the last one's link, and the new one's. -/
theorem Linked.snoc {W R : Int} {l l' : List Int} {b : Int} : ∀ {L : List Int}, L.Nodup → (∀ x ∈ L, x + 1 ≠ lastv L → link W R l' x = link W R l x) → (∀ x ∈ L, x + 1 = lastv L → link W R l' x = b + 1) → link W R l' b = 0 → Linked W R l L → Linked W R l' (L ++ [b])
  | [], _, _, _, hb, _ => hb
  | [a], _, _, h2, hb, _ => ⟨h2 a (by simp) rfl, hb⟩
  | a :: c :: r, hn, h1, h2, hb, hL => by
    have hne : a + 1 ≠ lastv (a :: c :: r) := by
      intro e
      have hm : ∀ (M : List Int) (d : Int), ∃ y ∈ (d :: M), y + 1 = lastv (d :: M) := by
        intro M
        induction M with
        | nil => intro d; exact ⟨d, by simp, rfl⟩
        | cons f M ih => intro d; obtain ⟨y, hy, he⟩ := ih f; exact ⟨y, by simp at hy ⊢; right; exact hy, he⟩
      obtain ⟨y, hy, he⟩ := hm r c
      have : y = a := by
        have e' : a + 1 = lastv (c :: r) := e
        omega
      subst this
      exact (List.nodup_cons.1 hn).1 hy
    refine ⟨by rw [h1 a (by simp) hne]; exact hL.1, ?_⟩
    exact Linked.snoc (L := c :: r) (List.nodup_cons.1 hn).2 (fun x hx hq => h1 x (by simp at hx ⊢; right; exact hx) hq) (fun x hx hq => h2 x (by simp at hx ⊢; right; exact hx) hq) hb hL.2
/-- A chain's blocks L stand so: its three registers (from r on) and the links. -/
structure Chain (N W R : Int) (l : List Int) (r : Nat) (L : List Int) : Prop where
  mem : ∀ x ∈ L, 0 ≤ x ∧ x < N
  nd : L.Nodup
  first : rd l (r : Int) = headv L
  last : rd l ((r + 1 : Nat) : Int) = lastv L
  count : rd l ((r + 2 : Nat) : Int) = (L.length : Int)
  links : Linked W R l L
theorem Chain.word {N W R K : Int} (h : mayv N W R K) {l : List Int} (hl : l.length = sizev N W R) {r : Nat} {L : List Int} (hr : r + 2 < 24) {b w : Int} (hb : 0 ≤ b ∧ b < N) (hw : 0 ≤ w ∧ w < W) (hn : w ≠ 5 ∨ b ∉ L) (v : Int) (hc : Chain N W R l r L) : Chain N W R (l.set (wp W R b w) v) r L :=
  ⟨hc.mem, hc.nd, by rw [reg_word h hl hb hw (by omega)]; exact hc.first, by rw [reg_word h hl hb hw (by omega)]; exact hc.last, by rw [reg_word h hl hb hw (by omega)]; exact hc.count,
   hc.links.same fun x hx => by rw [link_word h hl hb (hc.mem x hx) hw, if_neg (fun e => by rcases hn with hn | hn; exact hn e.2; exact hn (by rw [e.1]; exact hx))]⟩
def chainAt (k : Int) (r : Nat) : Prop := k = 0 ∧ r = 0 ∨ k = 1 ∧ r = 3
theorem regv_nat {i : Nat} (h : i < 24) : regv (i : Int) = some i := by
  unfold regv; rw [if_pos (by omega)]; simp
theorem SetLink_at {N W R K : Int} {l : List Int} (h : OK N W R K l) (m : Int) {b : Int} (hb : 0 ≤ b ∧ b < N) (v : Int) : ground_Ground_SetWord.f l m N W R K b 5 v = some (true, IntKind.u64.wrap (m + 1), l.set (linkp W R b) v) := by
  rw [SetWord_eq h, linkp_eq h.may hb]; rfl
theorem lastv_mem : ∀ {L : List Int}, L ≠ [] → ∃ y ∈ L, lastv L = y + 1
  | [], h => absurd rfl h
  | [a], _ => ⟨a, by simp, rfl⟩
  | _ :: c :: r, _ => by
    obtain ⟨y, hy, he⟩ := lastv_mem (L := c :: r) (by simp)
    exact ⟨y, by simp at hy ⊢; right; exact hy, he⟩
/-- A chain that is not touched: other registers are set, other blocks' links. -/
theorem Chain.reg {N W R K : Int} (h : mayv N W R K) {l : List Int} (hl : l.length = sizev N W R) {r i : Nat} {L : List Int} (hi : i < 24) (hr : r + 2 < 24) (hd : i < r ∨ r + 2 < i) (v : Int) (hc : Chain N W R l r L) : Chain N W R (l.set i v) r L :=
  ⟨hc.mem, hc.nd, by rw [reg_reg h hl hi, if_neg (by omega)]; exact hc.first, by rw [reg_reg h hl hi, if_neg (by omega)]; exact hc.last, by rw [reg_reg h hl hi, if_neg (by omega)]; exact hc.count,
   hc.links.same fun x hx => link_reg h hl (hc.mem x hx) hi⟩
theorem Chain.link {N W R K : Int} (h : mayv N W R K) {l : List Int} (hl : l.length = sizev N W R) {r : Nat} {L : List Int} (hr : r + 2 < 24) {b : Int} (hb : 0 ≤ b ∧ b < N) (hn : b ∉ L) (v : Int) (hc : Chain N W R l r L) : Chain N W R (l.set (linkp W R b) v) r L :=
  ⟨hc.mem, hc.nd, by rw [reg_link h hl hb (by omega)]; exact hc.first, by rw [reg_link h hl hb (by omega)]; exact hc.last, by rw [reg_link h hl hb (by omega)]; exact hc.count,
   hc.links.same fun x hx => by rw [link_set h hl hb (hc.mem x hx), if_neg (fun e => hn (by rw [e]; exact hx))]⟩
theorem Linked.head {W R : Int} {l : List Int} {a : Int} : ∀ {t : List Int}, Linked W R l (a :: t) → link W R l a = headv t
  | [], h => h
  | _ :: _, h => h.1
theorem headv_range {N : Int} : ∀ {t : List Int}, (∀ x ∈ t, 0 ≤ x ∧ x < N) → N ≤ 1048576 → 0 ≤ headv t ∧ headv t < 4294967296
  | [], _, _ => by decide
  | a :: t, h, hN => by have := h a (by simp); show 0 ≤ a + 1 ∧ a + 1 < 4294967296; omega
theorem headv_zero {N : Int} : ∀ {t : List Int}, (∀ x ∈ t, 0 ≤ x ∧ x < N) → headv t = 0 → t = []
  | [], _, _ => rfl
  | a :: t, h, e => by have := h a (by simp); have e' : a + 1 = 0 := e; omega
theorem chain_empty {N W R K : Int} (h : mayv N W R K) {r : Nat} : Chain N W R (List.replicate (sizev N W R) 0) r [] := by
  have hz : ∀ i : Int, rd (List.replicate (sizev N W R) (0 : Int)) i = 0 := fun i => by
    simp only [rd, List.getD_eq_getElem?_getD, List.getElem?_replicate]
    split <;> rfl
  exact ⟨by simp, by simp, hz _, hz _, hz _, trivial⟩
def peekv (l : List Int) (p : Option Nat) : Int := match p with
  | some n => rd l (n : Int)
  | none => 0
theorem speek_eq (l : List Int) (m : Int) (p : Option Nat) (hp : ∀ n, p = some n → n < l.length) : store_Store_Peek.f l m (posv p) = some (peekv l p) := by
  rw [peek_eq]
  cases p with
  | none => rw [if_neg (by simp [posv])]; rfl
  | some n => have := hp n rfl; rw [if_pos (by simp [posv]; omega)]; rfl
theorem SeeLink_at {N W R K : Int} {l : List Int} (h : OK N W R K l) (m : Int) {b : Int} (hb : 0 ≤ b ∧ b < N) : ground_Ground_SeeWord.f l m N W R K b 5 = some (link W R l b) := by
  unfold ground_Ground_SeeWord.f ground_Ground_all.f
  simp only [Option.bind_some]
  rw [word_eq l m N W R K b 5 h.may, linkp_eq h.may hb]
  simp only [Option.bind_some]
  rw [speek_eq l m _ (fun n hn => by rw [h.len]; cases hn; exact (linkp_lt h.may hb).1)]
  rfl
/-- The numbers from p to below b. -/
def iv (p b : Nat) : List Int := (List.range' p (b - p)).map (fun i : Nat => (i : Int))
theorem iv_mem {p b : Nat} {x : Int} (h : x ∈ iv p b) : (p : Int) ≤ x ∧ x < (b : Int) := by
  unfold iv at h
  obtain ⟨i, hi, rfl⟩ := List.mem_map.1 h
  have := List.mem_range'_1.1 hi
  omega
theorem iv_len (p b : Nat) : (iv p b).length = b - p := by simp [iv]
theorem iv_self (p : Nat) : iv p p = [] := by simp [iv]
theorem iv_snoc {p b : Nat} (h : p ≤ b) : iv p (b + 1) = iv p b ++ [(b : Int)] := by
  unfold iv
  rw [show b + 1 - p = (b - p) + 1 by omega, List.range'_concat, List.map_append]
  simp; omega
theorem iv_cons {b n : Nat} (h : b < n) : iv b n = (b : Int) :: iv (b + 1) n := by
  unfold iv
  rw [show n - b = (n - (b + 1)) + 1 by omega, List.range'_succ]
  rfl
theorem bind_is {α β : Type} {x : Option α} {a : α} (h : x = some a) (f : α → Option β) : x.bind f = f a := by rw [h]; rfl
theorem SetWord_at {N W R K : Int} {l : List Int} (h : OK N W R K l) (m : Int) {b w : Int} (hb : 0 ≤ b ∧ b < N) (hw : 0 ≤ w ∧ w < W) (v : Int) : ground_Ground_SetWord.f l m N W R K b w v = some (true, IntKind.u64.wrap (m + 1), l.set (wp W R b w) v) := by
  rw [SetWord_eq h, wp_eq h.may hb hw]; rfl
/-- A chain stands as it stood, if its registers and links do. -/
theorem Chain.same_ {N W R : Int} {l l' : List Int} {r : Nat} {L : List Int} (hr : ∀ i : Nat, r ≤ i → i ≤ r + 2 → rd l' (i : Int) = rd l (i : Int)) (hk : ∀ x ∈ L, V.link W R l' x = V.link W R l x) (hc : Chain N W R l r L) : Chain N W R l' r L :=
  ⟨hc.mem, hc.nd, by rw [hr _ (by omega) (by omega)]; exact hc.first, by rw [hr _ (by omega) (by omega)]; exact hc.last, by rw [hr _ (by omega) (by omega)]; exact hc.count, hc.links.same hk⟩
/-- A block's first j words are wiped. -/
structure Wip (N W R K b j : Int) (l l' : List Int) : Prop where
  ok : OK N W R K l'
  regs : ∀ i : Nat, i < 24 → rd l' (i : Int) = rd l (i : Int)
  words : ∀ c w : Int, 0 ≤ c ∧ c < N → 0 ≤ w ∧ w < W → word W R l' c w = if c = b ∧ w < j then 0 else word W R l c w
theorem Wip.none {N W R K b : Int} {l : List Int} (h : OK N W R K l) : Wip N W R K b 0 l l := ⟨h, fun _ _ => rfl, fun c w _ hw => by rw [if_neg (by omega)]⟩
theorem Wip.step {N W R K b j : Int} {l l' : List Int} (hb : 0 ≤ b ∧ b < N) (hj : 0 ≤ j ∧ j < W) (h : Wip N W R K b j l l') : Wip N W R K b (j + 1) l (l'.set (wp W R b j) 0) := by
  refine ⟨h.ok.set _ 0 (by decide) (by decide), fun i hi => by rw [reg_word h.ok.may h.ok.len hb hj hi]; exact h.regs i hi, fun c w hc hw => ?_⟩
  rw [word_set h.ok.may h.ok.len hb hc hj hw, h.words c w hc hw]
  by_cases e : b = c ∧ j = w
  · rw [if_pos e, if_pos (by omega)]
  · rw [if_neg e]
    by_cases f : c = b ∧ w < j
    · rw [if_pos f, if_pos (by omega)]
    · rw [if_neg f, if_neg (by omega)]
theorem Wip.chain {N W R K b j : Int} {l l' : List Int} (h : Wip N W R K b j l l') {r : Nat} (hr : r + 2 < 24) {L : List Int} (hn : b ∉ L) (hc : Chain N W R l r L) : Chain N W R l' r L :=
  hc.same_ (fun i h1 h2 => h.regs i (by omega)) (fun x hx => by
    have := h.words x 5 (hc.mem x hx) (five h.ok.may)
    rw [if_neg (fun q => hn (by rw [← q.1]; exact hx))] at this
    exact this)
theorem fits_eq (v : Nat) (hv : v < 4294967296) (n : Int) (hn : (-9223372036854775808 : Int) ≤ n) (hn' : n ≤ 9223372036854775807) : pack_Fits.f v n = some (decide (fitsv v n)) := by
  unfold pack_Fits.f
  by_cases h1 : n ≥ 32
  · rw [if_pos h1]; congr 1
    exact (decide_eq_true (by unfold fitsv; rw [show capv n = 32 by unfold capv; omega]; omega)).symm
  · rw [if_neg h1]
    by_cases h2 : n < 0
    · rw [if_pos h2]; congr 1
      rw [Bool.eq_iff_iff, beq_iff_eq, decide_eq_true_eq]
      unfold fitsv; rw [show capv n = 0 by unfold capv; omega]; omega
    · rw [if_neg h2, w64 (by omega) (by omega), if_pos (by omega)]
      congr 1
      rw [Bool.eq_iff_iff, beq_iff_eq, decide_eq_true_eq]
      unfold fitsv capv
      have e : (2 : Int) ^ min n.toNat 32 = ((2 ^ min n.toNat 32 : Nat) : Int) := by rw [Int.natCast_pow]; rfl
      rw [e, ← Int.natCast_ediv]
      have hp := Nat.two_pow_pos (min n.toNat 32)
      have := @Nat.div_eq_zero_iff v (2 ^ min n.toNat 32)
      omega
theorem pput_eq (w : Nat) (hw : w < 4294967296) (a n : Int) (v : Nat) (hv : v < 4294967296) : pack_Put.f w a n v = some (putv w a n v) := by
  unfold pack_Put.f putv
  rw [isPiece_eq]
  simp only [Option.bind_some, decide_eq_true_eq]
  by_cases h : piecev a n
  · rw [if_pos h, if_pos h]
    obtain ⟨h1, h2, h3, h4⟩ := h
    rw [fits_eq v hv n (by omega) (by omega)]
    simp only [Option.bind_some, decide_eq_true_eq]
    by_cases hf : fitsv v n
    · rw [if_pos hf, if_pos hf]
      obtain ⟨a, rfl⟩ := Int.eq_ofNat_of_zero_le h1
      obtain ⟨n, rfl⟩ := Int.eq_ofNat_of_zero_le (show 0 ≤ n by omega)
      have hvn : v < 2 ^ n := by unfold fitsv at hf; rwa [show capv (n : Int) = n by unfold capv; omega] at hf
      rw [mask_all n (by omega) a (by omega) (by omega) (by omega)]
      simp only [Option.bind_some, Int.toNat_natCast]
      rw [w64 (by omega) (by omega), if_pos (by omega)]
      have e : (v : Int) * 2 ^ min a 32 = ((v * 2 ^ a : Nat) : Int) := by rw [show min a 32 = a by omega, Int.natCast_mul, Int.natCast_pow]; rfl
      have hva : v * 2 ^ a < 2 ^ 32 := Nat.lt_of_lt_of_le (Nat.mul_lt_mul_of_pos_right hvn (Nat.two_pow_pos a)) (by rw [← Nat.pow_add]; exact Nat.pow_le_pow_right (by decide) (by omega))
      simp only [Int.toNat_natCast]
      rw [e, show IntKind.u32.wrap ((v * 2 ^ a : Nat) : Int) = ((v * 2 ^ a : Nat) : Int) by rw [IntKind.wrap_u32]; omega, put_bits w a n v (by omega) hvn (by omega)]
    · rw [if_neg hf, if_neg hf]
  · rw [if_neg h, if_neg h]
theorem putN_new (x a n v : Nat) (hx : x < 2 ^ a) : putN x a n v = x + v * 2 ^ a := by
  have h := put_sum x a n v
  have h0 : getN x a n = 0 := by unfold getN; rw [Nat.div_eq_of_lt hx, Nat.zero_mod]
  rw [h0] at h
  omega
theorem jstep (k : Nat) (l ws : List Int) (x a n v i : Nat) (hi : i < l.length) (hj : i < ws.length) (hm : i < 100) (hl : rd l (i : Int) = (v : Int)) (hw : rd ws (i : Int) = (n : Int)) (hx : x < 2 ^ a) (hv : v < 2 ^ n) (hn : 1 ≤ n) (ha : a + n ≤ 32) :
    pack_Join.lo0 (k + 1) l ws (x : Int) (a : Int) (i : Int) = pack_Join.lo0 k l ws ((x + v * 2 ^ a : Nat) : Int) ((a + n : Nat) : Int) ((i + 1 : Nat) : Int) := by
  have hx32 : x < 4294967296 := Nat.lt_of_lt_of_le hx (two_le (b := 32) (by omega))
  have hv32 : v < 4294967296 := Nat.lt_of_lt_of_le hv (two_le (b := 32) (by omega))
  rw [pack_Join.lo0, if_pos (by omega), if_pos (by omega), if_pos (by omega), hl, hw, pput_eq x hx32 a n v hv32]
  have hp : piecev (a : Int) (n : Int) := by unfold piecev; omega
  have hf : fitsv v (n : Int) := by unfold fitsv capv; rw [Int.toNat_natCast, show min n 32 = n by omega]; exact hv
  unfold putv
  rw [if_pos hp, if_pos hf]
  simp only [Option.bind_some, Int.toNat_natCast, if_true]
  rw [putN_new x a n v hx, wrap64_id (by omega) (by omega), wrap64_id (by omega) (by omega)]
  rfl
theorem join8 (k : Nat) (K C N S D R o : Nat) (hK : K < 4) (hC : C < 2) (hN : N < 2) (hS : S < 2) (hD : D < 2) (hR : R < 2) (ho : o < 16777216) :
    pack_Join.f (k + 20) [(K : Int), C, N, S, D, R, 0, o] [2, 1, 1, 1, 1, 1, 1, 24] = some (((K + 4 * C + 8 * N + 16 * S + 32 * D + 64 * R + 256 * o : Nat) : Int), 0) := by
  unfold pack_Join.f
  rw [show pack_total.f (k + 20) [2, 1, 1, 1, 1, 1, 1, 24] = some 32 by kernel_rfl]
  simp only [Option.bind_some]
  rw [if_neg (by decide), if_pos (by simp)]
  have s1 := jstep (k + 19) [(K : Int), C, N, S, D, R, 0, o] [2, 1, 1, 1, 1, 1, 1, 24] 0 0 2 K 0 (by simp) (by simp) (by decide) rfl rfl (by decide) (by omega) (by decide) (by decide)
  have s2 := jstep (k + 18) [(K : Int), C, N, S, D, R, 0, o] [2, 1, 1, 1, 1, 1, 1, 24] (0 + K * 2 ^ 0) 2 1 C 1 (by simp) (by simp) (by decide) rfl rfl (by omega) (by omega) (by decide) (by decide)
  have s3 := jstep (k + 17) [(K : Int), C, N, S, D, R, 0, o] [2, 1, 1, 1, 1, 1, 1, 24] (0 + K * 2 ^ 0 + C * 2 ^ 2) 3 1 N 2 (by simp) (by simp) (by decide) rfl rfl (by omega) (by omega) (by decide) (by decide)
  have s4 := jstep (k + 16) [(K : Int), C, N, S, D, R, 0, o] [2, 1, 1, 1, 1, 1, 1, 24] (0 + K * 2 ^ 0 + C * 2 ^ 2 + N * 2 ^ 3) 4 1 S 3 (by simp) (by simp) (by decide) rfl rfl (by omega) (by omega) (by decide) (by decide)
  have s5 := jstep (k + 15) [(K : Int), C, N, S, D, R, 0, o] [2, 1, 1, 1, 1, 1, 1, 24] (0 + K * 2 ^ 0 + C * 2 ^ 2 + N * 2 ^ 3 + S * 2 ^ 4) 5 1 D 4 (by simp) (by simp) (by decide) rfl rfl (by omega) (by omega) (by decide) (by decide)
  have s6 := jstep (k + 14) [(K : Int), C, N, S, D, R, 0, o] [2, 1, 1, 1, 1, 1, 1, 24] (0 + K * 2 ^ 0 + C * 2 ^ 2 + N * 2 ^ 3 + S * 2 ^ 4 + D * 2 ^ 5) 6 1 R 5 (by simp) (by simp) (by decide) rfl rfl (by omega) (by omega) (by decide) (by decide)
  have s7 := jstep (k + 13) [(K : Int), C, N, S, D, R, 0, o] [2, 1, 1, 1, 1, 1, 1, 24] (0 + K * 2 ^ 0 + C * 2 ^ 2 + N * 2 ^ 3 + S * 2 ^ 4 + D * 2 ^ 5 + R * 2 ^ 6) 7 1 0 6 (by simp) (by simp) (by decide) rfl rfl (by omega) (by omega) (by decide) (by decide)
  have s8 := jstep (k + 12) [(K : Int), C, N, S, D, R, 0, o] [2, 1, 1, 1, 1, 1, 1, 24] (0 + K * 2 ^ 0 + C * 2 ^ 2 + N * 2 ^ 3 + S * 2 ^ 4 + D * 2 ^ 5 + R * 2 ^ 6 + 0 * 2 ^ 7) 8 24 o 7 (by simp) (by simp) (by decide) rfl rfl (by omega) (by omega) (by decide) (by decide)
  have s9 : pack_Join.lo0 (k + 12) [(K : Int), C, N, S, D, R, 0, o] [2, 1, 1, 1, 1, 1, 1, 24] ((0 + K * 2 ^ 0 + C * 2 ^ 2 + N * 2 ^ 3 + S * 2 ^ 4 + D * 2 ^ 5 + R * 2 ^ 6 + 0 * 2 ^ 7 + o * 2 ^ 8 : Nat) : Int) ((8 + 24 : Nat) : Int) ((7 + 1 : Nat) : Int) = some (.out ((0 + K * 2 ^ 0 + C * 2 ^ 2 + N * 2 ^ 3 + S * 2 ^ 4 + D * 2 ^ 5 + R * 2 ^ 6 + 0 * 2 ^ 7 + o * 2 ^ 8 : Nat) : Int)) := by
    rw [pack_Join.lo0, if_neg (by simp)]
  have e : pack_Join.lo0 (k + 20) [(K : Int), C, N, S, D, R, 0, o] [2, 1, 1, 1, 1, 1, 1, 24] 0 0 0 = some (.out ((0 + K * 2 ^ 0 + C * 2 ^ 2 + N * 2 ^ 3 + S * 2 ^ 4 + D * 2 ^ 5 + R * 2 ^ 6 + 0 * 2 ^ 7 + o * 2 ^ 8 : Nat) : Int)) :=
    s1.trans (s2.trans (s3.trans (s4.trans (s5.trans (s6.trans (s7.trans (s8.trans s9)))))))
  rw [e]
  simp only [Option.bind_some, M.Lp.elim]
  congr 3
  omega
def bit (n : Int) : Prop := n = 0 ∨ n = 1
instance (n : Int) : Decidable (bit n) := by unfold bit; infer_instance
def rightv (K C N S D R o : Int) : Prop := (bit C ∧ bit N ∧ bit S ∧ bit D ∧ bit R) ∧ ((K = 1 ∨ K = 2) ∧ o = 0 ∨ (K = 0 ∨ K = 3) ∧ C = 0 ∧ N = 0 ∧ S = 0 ∧ D = 0 ∧ R = 0 ∧ 0 ≤ o ∧ o < 1048576 ∧ (K = 3 ∨ o = 0))
instance (K C N S D R o : Int) : Decidable (rightv K C N S D R o) := by unfold rightv; infer_instance
theorem rstep (k : Nat) (t : Int × Int × Int × Int × Int) (i : Nat) (hi : i < 5) : tag_Right.lo0 (k + 1) t (i : Int) = if bit (rd [t.1, t.2.1, t.2.2.1, t.2.2.2.1, t.2.2.2.2] (i : Int)) then tag_Right.lo0 k t ((i + 1 : Nat) : Int) else some (.ret false) := by
  rw [tag_Right.lo0, if_pos (by omega), if_pos (by omega), wrap64_id (by omega) (by omega)]
  by_cases h0 : rd [t.1, t.2.1, t.2.2.1, t.2.2.2.1, t.2.2.2.2] (i : Int) = 0
  · rw [if_pos h0, if_pos (show bit _ from Or.inl h0)]; rfl
  · rw [if_neg h0]
    by_cases h1 : rd [t.1, t.2.1, t.2.2.1, t.2.2.2.1, t.2.2.2.2] (i : Int) = 1
    · rw [if_pos h1, if_pos (show bit _ from Or.inr h1)]; rfl
    · rw [if_neg h1, if_neg (fun h : bit _ => h.elim h0 h1)]
theorem right_lo (k : Nat) (C N S D R : Int) : tag_Right.lo0 (k + 20) (C, N, S, D, R) 0 = some (if bit C ∧ bit N ∧ bit S ∧ bit D ∧ bit R then .out () else .ret false) := by
  have e0 := rstep (k + 19) (C, N, S, D, R) 0 (by decide)
  have e1 := rstep (k + 18) (C, N, S, D, R) 1 (by decide)
  have e2 := rstep (k + 17) (C, N, S, D, R) 2 (by decide)
  have e3 := rstep (k + 16) (C, N, S, D, R) 3 (by decide)
  have e4 := rstep (k + 15) (C, N, S, D, R) 4 (by decide)
  have e5 : tag_Right.lo0 (k + 15) (C, N, S, D, R) ((4 + 1 : Nat) : Int) = some (.out ()) := by rw [tag_Right.lo0, if_neg (by decide)]
  have g0 : rd [C, N, S, D, R] ((0 : Nat) : Int) = C := rfl
  have g1 : rd [C, N, S, D, R] ((1 : Nat) : Int) = N := rfl
  have g2 : rd [C, N, S, D, R] ((2 : Nat) : Int) = S := rfl
  have g3 : rd [C, N, S, D, R] ((3 : Nat) : Int) = D := rfl
  have g4 : rd [C, N, S, D, R] ((4 : Nat) : Int) = R := rfl
  simp only [g0] at e0
  simp only [g1] at e1
  simp only [g2] at e2
  simp only [g3] at e3
  simp only [g4] at e4
  rw [show (0 : Int) = ((0 : Nat) : Int) from rfl, e0, e1, e2, e3, e4, e5]
  by_cases h0 : bit C <;> by_cases h1 : bit N <;> by_cases h2 : bit S <;> by_cases h3 : bit D <;> by_cases h4 : bit R <;> simp [h0, h1, h2, h3, h4]
theorem right_eq (k : Nat) (K C N S D R o : Int) : tag_Right.f (k + 20) K C N S D R o = some (decide (rightv K C N S D R o)) := by
  unfold tag_Right.f tag_marks.f
  simp only [Option.bind_some]
  rw [right_lo k]
  by_cases hb : bit C ∧ bit N ∧ bit S ∧ bit D ∧ bit R
  · have hr : rightv K C N S D R o ↔ ((K = 1 ∨ K = 2) ∧ o = 0 ∨ (K = 0 ∨ K = 3) ∧ C = 0 ∧ N = 0 ∧ S = 0 ∧ D = 0 ∧ R = 0 ∧ 0 ≤ o ∧ o < 1048576 ∧ (K = 3 ∨ o = 0)) := ⟨fun h => h.2, fun h => ⟨hb, h⟩⟩
    rw [if_pos hb]
    simp only [Option.bind_some, M.Lp.elim]
    have hz : (([C, N, S, D, R] : List Int) == [0, 0, 0, 0, 0]) = decide (C = 0 ∧ N = 0 ∧ S = 0 ∧ D = 0 ∧ R = 0) := by
      rw [Bool.eq_iff_iff]; simp
    rw [hz]
    by_cases h1 : K = 1
    · rw [if_pos h1]; congr 1; rw [Bool.eq_iff_iff]; simp only [beq_iff_eq, decide_eq_true_eq]; rw [hr]; omega
    · rw [if_neg h1]
      by_cases h2 : K = 2
      · rw [if_pos h2]; congr 1; rw [Bool.eq_iff_iff]; simp only [beq_iff_eq, decide_eq_true_eq]; rw [hr]; omega
      · rw [if_neg h2]
        by_cases h0 : K = 0
        · rw [if_pos h0]
          by_cases hm : C = 0 ∧ N = 0 ∧ S = 0 ∧ D = 0 ∧ R = 0
          · rw [if_pos (decide_eq_true hm)]
            by_cases ho : o ≥ 0
            · rw [if_pos ho]
              by_cases ho2 : o < 1048576
              · rw [if_pos ho2, if_neg (by omega)]; congr 1; rw [Bool.eq_iff_iff]; simp only [beq_iff_eq, decide_eq_true_eq]; rw [hr]; omega
              · rw [if_neg ho2]; congr 1; exact (decide_eq_false (by rw [hr]; omega)).symm
            · rw [if_neg ho]; congr 1; exact (decide_eq_false (by rw [hr]; omega)).symm
          · rw [if_neg (by rw [decide_eq_true_eq]; exact hm)]; congr 1; exact (decide_eq_false (by rw [hr]; omega)).symm
        · rw [if_neg h0]
          by_cases h3 : K = 3
          · rw [if_pos h3]
            by_cases hm : C = 0 ∧ N = 0 ∧ S = 0 ∧ D = 0 ∧ R = 0
            · rw [if_pos (decide_eq_true hm)]
              by_cases ho : o ≥ 0
              · rw [if_pos ho]
                by_cases ho2 : o < 1048576
                · rw [if_pos ho2]; congr 1; exact (decide_eq_true (by rw [hr]; omega)).symm
                · rw [if_neg ho2]; congr 1; exact (decide_eq_false (by rw [hr]; omega)).symm
              · rw [if_neg ho]; congr 1; exact (decide_eq_false (by rw [hr]; omega)).symm
            · rw [if_neg (by rw [decide_eq_true_eq]; exact hm)]; congr 1; exact (decide_eq_false (by rw [hr]; omega)).symm
          · rw [if_neg h3]; congr 1; exact (decide_eq_false (by rw [hr]; omega)).symm
  · rw [if_neg hb]
    simp only [Option.bind_some, M.Lp.elim]
    congr 1
    exact (decide_eq_false (fun h => hb h.1)).symm
theorem pstep (k : Nat) (t : Int × Int × Int × Int × Int) (i : Nat) (hi : i < 5) (l : List Int) (hl : l.length < 100) : tag_Pack.lo0 (k + 1) t (i : Int) l = tag_Pack.lo0 k t ((i + 1 : Nat) : Int) (l ++ [rd [t.1, t.2.1, t.2.2.1, t.2.2.2.1, t.2.2.2.2] (i : Int) % 4294967296]) := by
  rw [tag_Pack.lo0, if_pos (by omega), if_pos (by omega), if_pos (by omega), wrap64_id (by omega) (by omega)]
  rfl
theorem pack_lo (k : Nat) (x C N S D R : Int) : tag_Pack.lo0 (k + 20) (C, N, S, D, R) 0 [x] = some [x, C % 4294967296, N % 4294967296, S % 4294967296, D % 4294967296, R % 4294967296] :=
  (pstep (k + 19) (C, N, S, D, R) 0 (by decide) [x] (by simp)).trans ((pstep (k + 18) (C, N, S, D, R) 1 (by decide) _ (by simp)).trans ((pstep (k + 17) (C, N, S, D, R) 2 (by decide) _ (by simp)).trans ((pstep (k + 16) (C, N, S, D, R) 3 (by decide) _ (by simp)).trans ((pstep (k + 15) (C, N, S, D, R) 4 (by decide) _ (by simp)).trans (by
    rw [tag_Pack.lo0, if_neg (by decide)]; rfl)))))
def twordv (K C N S D R o : Int) : Int := K + 4 * C + 8 * N + 16 * S + 32 * D + 64 * R + 256 * o
theorem pack_eq (k : Nat) (K C N S D R o : Int) : tag_Pack.f (k + 20) K C N S D R o = some (if rightv K C N S D R o then (twordv K C N S D R o, 0) else (0, 2)) := by
  unfold tag_Pack.f
  rw [right_eq k]
  simp only [Option.bind_some, decide_eq_true_eq]
  by_cases h : rightv K C N S D R o
  · rw [if_pos h, if_pos h]
    unfold tag_marks.f
    simp only [Option.bind_some]
    rw [pack_lo k]
    simp only [Option.bind_some]
    rw [if_pos (by simp)]
    simp only [List.cons_append, List.nil_append]
    unfold rightv bit at h
    obtain ⟨K, rfl⟩ := Int.eq_ofNat_of_zero_le (show 0 ≤ K by omega)
    obtain ⟨C, rfl⟩ := Int.eq_ofNat_of_zero_le (show 0 ≤ C by omega)
    obtain ⟨N, rfl⟩ := Int.eq_ofNat_of_zero_le (show 0 ≤ N by omega)
    obtain ⟨S, rfl⟩ := Int.eq_ofNat_of_zero_le (show 0 ≤ S by omega)
    obtain ⟨D, rfl⟩ := Int.eq_ofNat_of_zero_le (show 0 ≤ D by omega)
    obtain ⟨R, rfl⟩ := Int.eq_ofNat_of_zero_le (show 0 ≤ R by omega)
    obtain ⟨o, rfl⟩ := Int.eq_ofNat_of_zero_le (show 0 ≤ o by omega)
    rw [show (K : Int) % 4294967296 = K by omega, show (C : Int) % 4294967296 = C by omega, show (N : Int) % 4294967296 = N by omega, show (S : Int) % 4294967296 = S by omega, show (D : Int) % 4294967296 = D by omega, show (R : Int) % 4294967296 = R by omega, show (o : Int) % 4294967296 = o by omega]
    rw [join8 k K C N S D R o (by omega) (by omega) (by omega) (by omega) (by omega) (by omega) (by omega)]
    simp only [Option.bind_some]
    congr 2
  · rw [if_neg h, if_neg h]
theorem SeeWord_at {N W R K : Int} {l : List Int} (h : OK N W R K l) (m : Int) {b w : Int} (hb : 0 ≤ b ∧ b < N) (hw : 0 ≤ w ∧ w < W) : ground_Ground_SeeWord.f l m N W R K b w = some (word W R l b w) := by
  unfold ground_Ground_SeeWord.f ground_Ground_all.f
  simp only [Option.bind_some]
  rw [word_eq l m N W R K b w h.may, wp_eq h.may hb hw]
  simp only [Option.bind_some]
  rw [speek_eq l m _ (fun n hn => by rw [h.len]; cases hn; exact (wp_lt h.may hb hw).1)]
  rfl
theorem zz : (0 : Int) ≤ 0 ∧ (0 : Int) < 16 := by decide
theorem awake : quitrenttop_awakeShape.f 500 = some true := by decide +kernel
abbrev T7 : Type := Int × Int × Int × Int × Int × Int × Int
/-- A word says a tag. -/
structure G (w : Int) (t : T7) : Prop where
  un : tag_Unpack.f w = some t
  g1 : pack_Get.f w 0 2 = some t.1
  g2 : pack_Get.f w 8 24 = some t.2.2.2.2.2.2
  b1 : 0 ≤ t.1 ∧ t.1 < 4
  b2 : 0 ≤ t.2.2.2.2.2.2 ∧ t.2.2.2.2.2.2 < 16777216
theorem G.zero : G 0 (0, 0, 0, 0, 0, 0, 0) := ⟨by kernel_rfl, by kernel_rfl, by kernel_rfl, by decide, by decide⟩
theorem G.of {K C N S D R o : Int} (h : rightv K C N S D R o) : G (twordv K C N S D R o) (K, C, N, S, D, R, o) ∧ 0 ≤ twordv K C N S D R o ∧ twordv K C N S D R o < 4294967296 := by
  unfold rightv bit at h
  have h0 : 0 ≤ twordv K C N S D R o ∧ twordv K C N S D R o < 4294967296 := by unfold twordv; omega
  obtain ⟨w, hw⟩ := Int.eq_ofNat_of_zero_le h0.1
  refine ⟨⟨?_, ?_, ?_, by dsimp only; omega, by dsimp only; omega⟩, h0⟩
  · rw [hw, unpack_eq w (by omega)]
    unfold twordv at hw
    congr 1
    simp only [Prod.mk.injEq]
    omega
  · rw [hw, pget_eq w (by omega), if_pos (by unfold piecev; decide)]
    unfold twordv at hw
    unfold getN
    congr 1
    show ((w / 2 ^ 0 % 2 ^ 2 : Nat) : Int) = K
    omega
  · rw [hw, pget_eq w (by omega), if_pos (by unfold piecev; decide)]
    unfold twordv at hw
    unfold getN
    congr 1
    show ((w / 2 ^ 8 % 2 ^ 24 : Nat) : Int) = o
    omega
/-- The blocks' tags are those that are wanted. -/
structure TW (n : Nat) (l : List Int) (want : List T7) : Prop where
  ok : OK (n : Int) 16 1 1 l
  len : want.length = n
  good : ∀ b : Nat, b < n → G (word 16 1 l (b : Int) 0) (rdOf (0, 0, 0, 0, 0, 0, 0) want (b : Int))
theorem modn {n : Nat} (h1 : 1 ≤ n) (hs : n < 1000) {x : Int} (hx : 0 ≤ x ∧ x ≤ 255) : ∃ b : Nat, b < n ∧ wrap64 (Int.tmod x (n : Int)) = (b : Int) := by
  have h0 := Int.emod_nonneg x (show (n : Int) ≠ 0 by omega)
  have h2 := Int.emod_lt_of_pos x (show 0 < (n : Int) by omega)
  refine ⟨(x % (n : Int)).toNat, by omega, ?_⟩
  rw [Int.tmod_eq_emod_of_nonneg hx.1, wrap64_id (by omega) (by omega)]
  omega
theorem rd_mem (l : List Int) (i : Nat) (h : i < l.length) : rd l (i : Int) ∈ l := by rw [rd_nat l i h]; exact List.getElem_mem h
theorem rdOf_set {n : Nat} (want : List T7) (b c : Nat) (t : T7) (hb : b < want.length) : rdOf (0, 0, 0, 0, 0, 0, 0) (want.set b t) (c : Int) = if b = c then t else rdOf (0, 0, 0, 0, 0, 0, 0) want (c : Int) := by
  unfold rdOf
  rw [Int.toNat_natCast, List.getD_eq_getElem?_getD, List.getD_eq_getElem?_getD, List.getElem?_set]
  by_cases e : b = c
  · rw [if_pos e, if_pos hb, if_pos e]; rfl
  · rw [if_neg e, if_neg e]
theorem tags_lo0 {n : Nat} (h1 : 1 ≤ n) (hs : n ≤ 60) (X : List T7) (L : List Int) (hX : X.length ≤ 60) (hL : ∀ x ∈ L, 0 ≤ x ∧ x ≤ 255) (ws : List Int) : ∀ (d k j : Nat) (l : List Int) (want : List T7) (m : Int), TW n l want → j + d = X.length → d + 100 < k →
    ∃ l' want' m', quitrenttop_WholeTags.lo0 k (n : Int) X L ((n : Int), 16, 1, 1, ws) n (j : Int) l want m = some (.out (l', want', m')) ∧ TW n l' want' := by
  intro d
  induction d with
  | zero =>
    intro k j l want m I hj hk
    obtain ⟨k, rfl⟩ : ∃ q, k = q + 1 := ⟨k - 1, by omega⟩
    exact ⟨l, want, m, by rw [quitrenttop_WholeTags.lo0, if_neg (by omega)], I⟩
  | succ d ih =>
    intro k j l want m I hj hk
    obtain ⟨k, rfl⟩ : ∃ q, k = q + 20 + 1 := ⟨k - 21, by omega⟩
    rw [quitrenttop_WholeTags.lo0, if_pos (by omega), if_pos (by omega)]
    have hp := pack_eq k (rdOf (0, 0, 0, 0, 0, 0, 0) X (j : Int)).1 (rdOf (0, 0, 0, 0, 0, 0, 0) X (j : Int)).2.1 (rdOf (0, 0, 0, 0, 0, 0, 0) X (j : Int)).2.2.1 (rdOf (0, 0, 0, 0, 0, 0, 0) X (j : Int)).2.2.2.1 (rdOf (0, 0, 0, 0, 0, 0, 0) X (j : Int)).2.2.2.2.1 (rdOf (0, 0, 0, 0, 0, 0, 0) X (j : Int)).2.2.2.2.2.1 (rdOf (0, 0, 0, 0, 0, 0, 0) X (j : Int)).2.2.2.2.2.2
    generalize rdOf (0, 0, 0, 0, 0, 0, 0) X (j : Int) = t at *
    rw [next_i j (by omega)]
    by_cases hr : rightv t.1 t.2.1 t.2.2.1 t.2.2.2.1 t.2.2.2.2.1 t.2.2.2.2.2.1 t.2.2.2.2.2.2
    · rw [if_pos hr] at hp
      obtain ⟨g, g0, g1⟩ := G.of hr
      generalize twordv t.1 t.2.1 t.2.2.1 t.2.2.2.1 t.2.2.2.2.1 t.2.2.2.2.2.1 t.2.2.2.2.2.2 = w at *
      by_cases hl : (j : Int) ≥ (L.length : Int)
      · obtain ⟨l', want', m', e, hf⟩ := ih (k + 20) (j + 1) l want m I (by omega) (by omega)
        refine ⟨l', want', m', ?_, hf⟩
        refine Eq.trans (bind_is hp _) ?_
        dsimp only
        rw [if_pos rfl, if_pos hl]
        exact e
      · obtain ⟨b, hbn, eb⟩ := modn h1 (by omega) (hL _ (rd_mem L j (by omega)))
        have hb : 0 ≤ (b : Int) ∧ (b : Int) < (n : Int) := by omega
        have I' : TW n (l.set (wp 16 1 (b : Int) 0) w) (want.set b t) := ⟨I.ok.set _ w g0 g1, by rw [List.length_set]; exact I.len, fun c hc => by
          rw [word_set I.ok.may I.ok.len hb (by omega) zz zz, rdOf_set (n := n) want b c t (by rw [I.len]; exact hbn)]
          by_cases e : b = c
          · rw [if_pos ⟨by omega, rfl⟩, if_pos e]; exact g
          · rw [if_neg (by omega), if_neg e]; exact I.good c hc⟩
        obtain ⟨l', want', m', e, hf⟩ := ih (k + 20) (j + 1) _ _ (IntKind.u64.wrap (m + 1)) I' (by omega) (by omega)
        refine ⟨l', want', m', ?_, hf⟩
        refine Eq.trans (bind_is hp _) ?_
        dsimp only
        rw [if_pos rfl, if_neg hl, if_pos (by omega), if_neg (by omega), eb]
        refine Eq.trans (bind_is (SetWord_at I.ok m hb zz w) _) ?_
        dsimp only
        rw [if_pos rfl, if_pos hb.1, if_pos hb.2, Int.toNat_natCast]
        refine Eq.trans (bind_is rfl _) ?_
        exact e
    · rw [if_neg hr] at hp
      obtain ⟨l', want', m', e, hf⟩ := ih (k + 20) (j + 1) l want m I (by omega) (by omega)
      refine ⟨l', want', m', ?_, hf⟩
      refine Eq.trans (bind_is hp _) ?_
      dsimp only
      rw [if_neg (by decide)]
      exact e
theorem tags_lo1 {n : Nat} (hs : n ≤ 60) (ws l : List Int) (want : List T7) (m : Int) (I : TW n l want) : ∀ (d k j : Nat), j + d = n → d < k →
    quitrenttop_WholeTags.lo1 k ((n : Int), 16, 1, 1, ws) n (l, want, m) (j : Int) = some (.out ()) := by
  intro d
  induction d with
  | zero =>
    intro k j hj hk
    obtain ⟨k, rfl⟩ : ∃ q, k = q + 1 := ⟨k - 1, by omega⟩
    rw [quitrenttop_WholeTags.lo1, if_neg (by omega)]
  | succ d ih =>
    intro k j hj hk
    obtain ⟨k, rfl⟩ : ∃ q, k = q + 1 := ⟨k - 1, by omega⟩
    have g := I.good j (by omega)
    have hb : 0 ≤ (j : Int) ∧ (j : Int) < (n : Int) := by omega
    have b1 := g.b1
    have b2 := g.b2
    rw [quitrenttop_WholeTags.lo1, if_pos (by omega), if_pos (by omega)]
    refine Eq.trans (bind_is (SeeWord_at I.ok m hb zz) _) ?_
    refine Eq.trans (bind_is g.un _) ?_
    dsimp only
    rw [if_pos rfl, if_pos rfl, if_pos rfl, if_pos rfl, if_pos rfl, if_pos rfl, if_pos rfl]
    refine Eq.trans (bind_is g.g1 _) ?_
    rw [wrap64_id (n := (rdOf (0, 0, 0, 0, 0, 0, 0) want (j : Int)).1) (by omega) (by omega), if_pos rfl]
    refine Eq.trans (bind_is g.g2 _) ?_
    rw [wrap64_id (n := (rdOf (0, 0, 0, 0, 0, 0, 0) want (j : Int)).2.2.2.2.2.2) (by omega) (by omega), if_pos rfl, next_i j (by omega)]
    exact ih k (j + 1) (by omega) (by omega)
theorem WholeTags (a : Int) (X : List T7) (L : List Int) (ha : (Lit.int .u8 a).wf = true) (_ : X.length ≤ 9223372036854775807)
    (_ : ∀ x ∈ X, (Lit.int .i64 x.1).wf = true ∧ (Lit.int .i64 x.2.1).wf = true ∧ (Lit.int .i64 x.2.2.1).wf = true ∧ (Lit.int .i64 x.2.2.2.1).wf = true ∧ (Lit.int .i64 x.2.2.2.2.1).wf = true ∧ (Lit.int .i64 x.2.2.2.2.2.1).wf = true ∧ (Lit.int .i64 x.2.2.2.2.2.2).wf = true) (_ : L.length ≤ 9223372036854775807) (hL : ∀ x ∈ L, (Lit.int .u8 x).wf = true) : ∃ k, quitrenttop_WholeTags.f k a X L = some true := by
  rw [Lit.wf_int_iff] at ha
  have q0 : 0 ≤ a := ha.1
  have hb : quitrenttop_awakeShape.f 500 = some true := awake
  generalize hk : 500 = k at *
  refine ⟨k, ?_⟩
  unfold quitrenttop_WholeTags.f
  refine Eq.trans (bind_is hb _) ?_
  rw [if_pos rfl]
  by_cases h1 : a < 1
  · rw [if_pos h1]; exact bind_is hb _
  by_cases h2 : a > 60
  · rw [if_neg h1, if_pos h2]; exact bind_is hb _
  by_cases h3 : (X.length : Int) > 60
  · rw [if_neg h1, if_neg h2, if_pos h3]; exact bind_is hb _
  rw [if_neg h1, if_neg h2, if_neg h3]
  obtain ⟨n, rfl⟩ := Int.eq_ofNat_of_zero_le q0
  have hL' : ∀ x ∈ L, 0 ≤ x ∧ x ≤ 255 := fun x hx => by have := hL x hx; rw [Lit.wf_int_iff] at this; exact ⟨this.1, this.2⟩
  have hm : mayv (n : Int) 16 1 1 := by unfold mayv; omega
  have hO := OK.zero hm
  have I0 : TW n (List.replicate (sizev (n : Int) 16 1) 0) (List.replicate n (0, 0, 0, 0, 0, 0, 0)) := ⟨hO, by simp, fun b hb => by
    have e1 : rdOf (0, 0, 0, 0, 0, 0, 0) (List.replicate n ((0, 0, 0, 0, 0, 0, 0) : T7)) (b : Int) = (0, 0, 0, 0, 0, 0, 0) := by
      unfold rdOf
      rw [Int.toNat_natCast, List.getD_eq_getElem?_getD, List.getElem?_replicate]
      split <;> rfl
    have e2 : word 16 1 (List.replicate (sizev (n : Int) 16 1) 0) (b : Int) 0 = 0 := by
      unfold word
      simp only [rd, List.getD_eq_getElem?_getD, List.getElem?_replicate]
      split <;> rfl
    rw [e1, e2]
    exact G.zero⟩
  rw [wrap64_id (n := (n : Int)) (by omega) (by omega)]
  refine Eq.trans (bind_is (gnew_may k (by omega) _ _ _ _ hm) _) ?_
  have em : M.mkLen 5026338869833 (n : Int) = some n := by
    unfold M.mkLen
    rw [if_pos (by omega), Int.toNat_natCast]
  refine Eq.trans (bind_is em _) ?_
  obtain ⟨l', want', m', e, I⟩ := tags_lo0 (by omega) (by omega) X L (by omega) hL' (List.replicate (sizev (n : Int) 16 1) 0) X.length k 0 _ _ 0 I0 (by omega) (by omega)
  refine Eq.trans (bind_is e _) ?_
  simp only [M.Lp.elim]
  exact bind_is (tags_lo1 (by omega) _ l' want' m' I n k 0 (by omega) (by omega)) _
end Go.Proofs.YtobeonkddamnoaaDoor.V
