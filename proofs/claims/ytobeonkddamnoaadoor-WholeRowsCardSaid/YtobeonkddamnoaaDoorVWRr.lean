/- The laws of the group WRr on the plain functions. No condition. -/
import Derived.Test.YtobeonkddamnoaaDoorMWR
import Derived.DataShut
import Derived.Laws.Bits64
import Derived.Laws.BitsLemmas
import Derived.RowKit
import Derived.KernelRfl
namespace Go.Proofs.YtobeonkddamnoaaDoor.V
open Go.RowKit Go.Proofs.YtobeonkddamnoaaDoor.C Go.Proofs.YtobeonkddamnoaaDoor.M Go.Proofs.YtobeonkddamnoaaDoorW.PrintWords
set_option linter.unusedVariables false
set_option linter.unusedSimpArgs false
theorem wrap64_id {n : Int} (h0 : -9223372036854775808 ≤ n) (h1 : n ≤ 9223372036854775807) : wrap64 n = n := by unfold wrap64; omega
/-- What a number counts as. -/
def cnt (n : Int) : Int := max 0 (min n 1125899906842624)
def byv (n : Int) : Int := max 1 (cnt n)
theorem cnt_bounds (n : Int) : 0 ≤ cnt n ∧ cnt n ≤ 1125899906842624 := by unfold cnt; omega
theorem byv_bounds (n : Int) : 1 ≤ byv n ∧ byv n ≤ 1125899906842624 := by have := cnt_bounds n; unfold byv; omega
theorem cnt_id {n : Int} (h : 0 ≤ n) (h' : n ≤ 1125899906842624) : cnt n = n := by unfold cnt; omega
theorem clamp_eq (n lo hi : Int) : ratio_Clamp.f n lo hi = some (if n > hi then hi else if n < lo then lo else n) := by
  unfold ratio_Clamp.f; split <;> (try split) <;> simp_all
theorem counts_eq (n : Int) : ratio_counts.f n = some (cnt n) := by
  unfold ratio_counts.f; rw [clamp_eq]; simp only [Option.bind_some, cnt]
  congr 1
  by_cases h1 : n > 1125899906842624
  · rw [if_pos h1]; omega
  · rw [if_neg h1]
    by_cases h2 : n < 0
    · rw [if_pos h2]; omega
    · rw [if_neg h2]; omega
theorem by_eq (n : Int) : ratio_by.f n = some (byv n) := by
  unfold ratio_by.f byv; rw [counts_eq]; simp only [Option.bind_some]
  by_cases h : cnt n < 1
  · rw [if_pos h]; congr 1; omega
  · rw [if_neg h]; congr 1; omega
theorem tdiv_pos {a b : Int} (h : 0 ≤ a) : Int.tdiv a b = a / b := Int.tdiv_eq_ediv_of_nonneg h
def upv (a b : Int) : Int := (cnt a + byv b - 1) / byv b
theorem div_le {a b : Int} (h : 0 ≤ a) (hb : 1 ≤ b) : 0 ≤ a / b ∧ a / b ≤ a := ⟨Int.ediv_nonneg h (by omega), Int.ediv_le_self _ h⟩
theorem up_eq (a b : Int) : ratio_Up.f a b = some (upv a b) := by
  have ha := cnt_bounds a; have hb := byv_bounds b
  have hd := div_le (a := cnt a + byv b - 1) (by omega) hb.1
  unfold ratio_Up.f upv; simp only [counts_eq, by_eq, Option.bind_some]
  rw [if_neg (by omega), wrap64_id (n := cnt a + byv b) (by omega) (by omega), wrap64_id (n := cnt a + byv b - 1) (by omega) (by omega), tdiv_pos (by omega), wrap64_id (by omega) (by omega)]
theorem up_split {x y : Int} (hy : 1 ≤ y) : (x + y - 1) / y = if x % y > 0 then x / y + 1 else x / y := by
  have e := Int.mul_ediv_add_emod x y
  have h0 := Int.emod_nonneg x (show y ≠ 0 by omega)
  have h1 := Int.emod_lt_of_pos x (show 0 < y by omega)
  split
  · rw [Int.ediv_eq_iff_of_pos (by omega)]
    have : x / y * y = y * (x / y) := Int.mul_comm _ _
    constructor
    · rw [Int.add_mul]; omega
    · rw [Int.add_mul]; omega
  · rw [Int.ediv_eq_iff_of_pos (by omega)]
    have : x / y * y = y * (x / y) := Int.mul_comm _ _
    constructor <;> omega
/-! ### lists -/
theorem rd_at (l : List Int) (j : Nat) (h : j < l.length) : rd l (j : Int) = l[j] := by
  simp [rd, List.getD_eq_getElem?_getD, List.getElem?_eq_getElem h]
theorem drop_at (l : List Int) (j : Nat) (h : j < l.length) : l.drop j = rd l (j : Int) :: l.drop (j + 1) := by
  rw [rd_at l j h]; exact List.drop_eq_getElem_cons h
theorem next_at (j : Nat) (h : j < 100000) : wrap64 ((j : Int) + 1) = ((j + 1 : Nat) : Int) := by
  rw [wrap64_id (by omega) (by omega)]; omega
def sumv : List Int → Int
  | [] => 0
  | n :: l => cnt n + sumv l
def prodv : List Int → Int
  | [] => 1
  | n :: l => cnt n * prodv l
def low (n : Int) : Int := min n 1125899906842624
def zeroIn : List Int → Bool
  | [] => false
  | n :: l => cnt n == 0 || zeroIn l
theorem sumv_nonneg : ∀ l, 0 ≤ sumv l
  | [] => Int.le_refl 0
  | n :: l => by have := sumv_nonneg l; have := cnt_bounds n; simp only [sumv]; omega
theorem prodv_pos : ∀ l, zeroIn l = false → 1 ≤ prodv l
  | [], _ => Int.le_refl 1
  | n :: l, h => by
    simp only [zeroIn, Bool.or_eq_false_iff, beq_eq_false_iff_ne] at h
    have h1 := prodv_pos l h.2
    have h2 := cnt_bounds n
    have h3 : 1 ≤ cnt n := by omega
    simp only [prodv]
    have := Int.mul_le_mul h3 h1 (by omega) (by omega)
    omega
theorem sumv_append (a b : List Int) : sumv (a ++ b) = sumv a + sumv b := by
  induction a with
  | nil => simp [sumv]
  | cons n a ih => simp only [List.cons_append, sumv, ih]; omega
theorem sumv_reverse (l : List Int) : sumv l.reverse = sumv l := by
  induction l with
  | nil => rfl
  | cons n l ih => simp only [List.reverse_cons, sumv_append, sumv, ih]; omega
theorem prodv_append (a b : List Int) : prodv (a ++ b) = prodv a * prodv b := by
  induction a with
  | nil => simp [prodv]
  | cons n a ih => simp only [List.cons_append, prodv, ih, Int.mul_assoc]
theorem prodv_reverse (l : List Int) : prodv l.reverse = prodv l := by
  induction l with
  | nil => rfl
  | cons n l ih => simp only [List.reverse_cons, prodv_append, prodv, ih, Int.mul_one]; exact Int.mul_comm _ _
theorem zeroIn_append (a b : List Int) : zeroIn (a ++ b) = (zeroIn a || zeroIn b) := by
  induction a with
  | nil => rfl
  | cons n a ih => simp only [List.cons_append, zeroIn, ih, Bool.or_assoc]
theorem zeroIn_reverse (l : List Int) : zeroIn l.reverse = zeroIn l := by
  induction l with
  | nil => rfl
  | cons n l ih => simp only [List.reverse_cons, zeroIn_append, zeroIn, ih, Bool.or_false]; exact Bool.or_comm _ _
def addv (l : List Int) : Int := low (sumv l)
def mulv (l : List Int) : Int := if zeroIn l = true then 0 else low (prodv l)
theorem low_bounds {n : Int} (h : 0 ≤ n) : 0 ≤ low n ∧ low n ≤ 1125899906842624 := by unfold low; omega
theorem add_loop (l : List Int) (hl : l.length < 1000) : ∀ (d j k : Nat) (s : Int), j + d = l.length → d < k → 0 ≤ s → s ≤ 1125899906842624 → ratio_Add.lo0 k l s j = some (low (s + sumv (l.drop j))) := by
  intro d
  induction d with
  | zero =>
    intro j k s h hk h0 h1
    obtain ⟨k, rfl⟩ : ∃ q, k = q + 1 := ⟨k - 1, by omega⟩
    rw [ratio_Add.lo0, if_neg (by omega), List.drop_eq_nil_of_le (by omega)]
    simp only [sumv, low]; congr 1; omega
  | succ d ih =>
    intro j k s h hk h0 h1
    obtain ⟨k, rfl⟩ : ∃ q, k = q + 1 := ⟨k - 1, by omega⟩
    have hc := cnt_bounds (rd l j)
    have hs := sumv_nonneg (l.drop (j + 1))
    rw [ratio_Add.lo0, if_pos (by omega), if_pos (by omega), counts_eq, next_at j (by omega)]
    simp only [Option.bind_some]
    rw [wrap64_id (by omega) (by omega), drop_at l j (by omega)]
    split
    · rw [ih (j + 1) k _ (by omega) (by omega) (by omega) (by omega)]
      simp only [sumv, low]
      congr 1
      omega
    · rw [ih (j + 1) k _ (by omega) (by omega) (by omega) (by omega)]
      simp only [sumv]
      congr 2
      omega
theorem add_eq (k : Nat) (hk : 200 ≤ k) (l : List Int) (hl : l.length < 150) : ratio_Add.f k l = some (addv l) := by
  unfold ratio_Add.f
  have := add_loop l (by omega) l.length 0 k 0 (by omega) (by omega) (by omega) (by omega)
  rw [show ((0 : Nat) : Int) = 0 from rfl] at this
  rw [this]
  simp [addv]
theorem low_mul {s c : Int} (h0 : 0 ≤ s) (hc : 1 ≤ c) : low (low s * c) = low (s * c) := by
  unfold low
  by_cases h : s ≤ 1125899906842624
  · rw [show min s 1125899906842624 = s by omega]
  · rw [show min s 1125899906842624 = 1125899906842624 by omega]
    have h1 : 1125899906842624 * c ≤ s * c := Int.mul_le_mul_of_nonneg_right (by omega) (by omega)
    have h2 : 1125899906842624 * 1 ≤ 1125899906842624 * c := Int.mul_le_mul_of_nonneg_left hc (by omega)
    omega
theorem mul_step {s c : Int} (hc : 1 ≤ c) :
    (s ≤ wrap64 (Int.tdiv (1125899906842624 : Int) c)) ↔ s * c ≤ 1125899906842624 := by
  rw [tdiv_pos (by omega), wrap64_id (by have := div_le (a := 1125899906842624) (by omega) hc; omega) (by have := div_le (a := 1125899906842624) (by omega) hc; omega)]
  exact Int.le_ediv_iff_mul_le (by omega)
theorem mul_loop (l : List Int) (hl : l.length < 1000) : ∀ (d j k : Nat) (s : Int), j + d = l.length → d < k → 1 ≤ s → s ≤ 1125899906842624 → zeroIn (l.drop j) = false → ratio_Mul.lo0 k l s j = some (low (s * prodv (l.drop j))) := by
  intro d
  induction d with
  | zero =>
    intro j k s h hk h0 h1 hz
    obtain ⟨k, rfl⟩ : ∃ q, k = q + 1 := ⟨k - 1, by omega⟩
    rw [ratio_Mul.lo0, if_neg (by omega), List.drop_eq_nil_of_le (by omega)]
    simp only [prodv, low, Int.mul_one]; congr 1; omega
  | succ d ih =>
    intro j k s h hk h0 h1 hz
    obtain ⟨k, rfl⟩ : ∃ q, k = q + 1 := ⟨k - 1, by omega⟩
    have hb := cnt_bounds (rd l j)
    rw [drop_at l j (by omega)] at hz ⊢
    simp only [zeroIn, Bool.or_eq_false_iff, beq_eq_false_iff_ne] at hz
    have hc : 1 ≤ cnt (rd l j) := by omega
    have hp := prodv_pos _ hz.2
    have hsc : 1 * 1 ≤ s * cnt (rd l j) := Int.mul_le_mul h0 hc (by omega) (by omega)
    rw [ratio_Mul.lo0, if_pos (by omega), if_pos (by omega), counts_eq, next_at j (by omega)]
    simp only [Option.bind_some]
    rw [if_neg (by omega)]
    have hst := mul_step (s := s) hc
    have e := low_mul (s := s * cnt (rd l j)) (by omega) hp
    simp only [prodv]
    rw [← Int.mul_assoc, ← e]
    by_cases h2 : s * cnt (rd l j) ≤ 1125899906842624
    · rw [if_pos (hst.2 h2), wrap64_id (by omega) (by omega), ih (j + 1) k _ (by omega) (by omega) (by omega) (by omega) hz.2]
      rw [show low (s * cnt (rd l j)) = s * cnt (rd l j) by unfold low; omega]
    · rw [if_neg (fun h => h2 (hst.1 h)), ih (j + 1) k _ (by omega) (by omega) (by omega) (by omega) hz.2]
      rw [show low (s * cnt (rd l j)) = 1125899906842624 by unfold low; omega]
theorem zero_eq (n : Int) : ratio_zero.f n = some (cnt n == 0) := by
  unfold ratio_zero.f; rw [counts_eq]; rfl
theorem idx_loop (l : List Int) (hl : l.length < 1000) : ∀ (d j k : Nat), j + d = l.length → d < k →
    (zeroIn (l.drop j) = false ∧ slices_IndexFunc_int_int_F150.lo0 k l j = some (.out ())) ∨ (zeroIn (l.drop j) = true ∧ ∃ i : Int, 0 ≤ i ∧ slices_IndexFunc_int_int_F150.lo0 k l j = some (.ret i)) := by
  intro d
  induction d with
  | zero =>
    intro j k h hk
    obtain ⟨k, rfl⟩ : ∃ q, k = q + 1 := ⟨k - 1, by omega⟩
    rw [slices_IndexFunc_int_int_F150.lo0, if_neg (by omega), List.drop_eq_nil_of_le (by omega)]
    exact .inl ⟨rfl, rfl⟩
  | succ d ih =>
    intro j k h hk
    obtain ⟨k, rfl⟩ : ∃ q, k = q + 1 := ⟨k - 1, by omega⟩
    rw [drop_at l j (by omega), slices_IndexFunc_int_int_F150.lo0, if_pos (by omega), if_pos (by omega), zero_eq, next_at j (by omega)]
    simp only [Option.bind_some, zeroIn]
    cases hc : cnt (rd l j) == 0
    · simpa using ih (j + 1) k (by omega) (by omega)
    · right; simp
theorem contains_eq (k : Nat) (hk : 200 ≤ k) (l : List Int) (hl : l.length < 150) : slices_ContainsFunc_int_int_F150.f k l = some (zeroIn l) := by
  unfold slices_ContainsFunc_int_int_F150.f slices_IndexFunc_int_int_F150.f
  have := idx_loop l (by omega) l.length 0 k (by omega) (by omega)
  rw [show ((0 : Nat) : Int) = 0 from rfl] at this
  rcases this with ⟨h1, h2⟩ | ⟨h1, i, h0, h2⟩
  · rw [List.drop_zero] at h1; simp [h1, h2, Lp.elim]
  · rw [List.drop_zero] at h1; simp [h1, h2, Lp.elim, h0]
theorem mul_eq (k : Nat) (hk : 200 ≤ k) (l : List Int) (hl : l.length < 150) : ratio_Mul.f k l = some (mulv l) := by
  unfold ratio_Mul.f mulv
  rw [contains_eq k hk l hl]
  simp only [Option.bind_some]
  cases hz : zeroIn l
  · have := mul_loop l (by omega) l.length 0 k 1 (by omega) (by omega) (by omega) (by omega) (by simpa using hz)
    rw [show ((0 : Nat) : Int) = 0 from rfl] at this
    rw [this]
    simp
  · simp
theorem mul2 (k : Nat) (hk : 200 ≤ k) {a b : Int} (ha : 0 ≤ a) (ha' : a ≤ 1125899906842624) (hb : 0 ≤ b) (hb' : b ≤ 1125899906842624) (h : a * b ≤ 1125899906842624) : ratio_Mul.f k [a, b] = some (a * b) := by
  rw [mul_eq k hk _ (by simp)]
  congr 1
  unfold mulv
  simp only [zeroIn, prodv, cnt_id ha ha', cnt_id hb hb', Int.mul_one, Bool.or_false, Bool.or_eq_true, beq_iff_eq]
  by_cases h0 : a = 0 ∨ b = 0
  · rw [if_pos h0]
    rcases h0 with rfl | rfl <;> simp
  · rw [if_neg h0]; unfold low; omega
theorem add2 (k : Nat) (hk : 200 ≤ k) {a b : Int} (ha : 0 ≤ a) (hb : 0 ≤ b) (h : a + b ≤ 1125899906842624) : ratio_Add.f k [a, b] = some (a + b) := by
  rw [add_eq k hk _ (by simp)]
  congr 1
  unfold addv
  simp only [sumv, cnt_id ha (by omega), cnt_id hb (by omega)]
  unfold low; omega
theorem add3 (k : Nat) (hk : 200 ≤ k) {a b c : Int} (ha : 0 ≤ a) (hb : 0 ≤ b) (hc : 0 ≤ c) (h : a + b + c ≤ 1125899906842624) : ratio_Add.f k [a, b, c] = some (a + b + c) := by
  rw [add_eq k hk _ (by simp)]
  congr 1
  unfold addv
  simp only [sumv, cnt_id ha (by omega), cnt_id hb (by omega), cnt_id hc (by omega)]
  unfold low; omega
def ceilv (a b : Int) : Int := (a + b - 1) / b
theorem ceil_spec {x y : Int} (hy : 1 ≤ y) : ceilv x y * y - y < x ∧ x ≤ ceilv x y * y := by
  have e := Int.mul_ediv_add_emod (x + y - 1) y
  have h0 := Int.emod_nonneg (x + y - 1) (show y ≠ 0 by omega)
  have h1 := Int.emod_lt_of_pos (x + y - 1) (show 0 < y by omega)
  have hL : ceilv x y = (x + y - 1) / y := rfl
  rw [← hL, Int.mul_comm] at e
  omega
theorem ceil_bounds {x y : Int} (hx : 0 ≤ x) (hy : 1 ≤ y) : 0 ≤ ceilv x y ∧ ceilv x y ≤ x := by
  have hs := ceil_spec (x := x) hy
  constructor
  · exact Int.ediv_nonneg (by omega) (by omega)
  · rcases Int.lt_or_le x (ceilv x y) with h | h
    · have h1 : x * 1 ≤ x * y := Int.mul_le_mul_of_nonneg_left hy hx
      have h2 : (x + 1) * y ≤ ceilv x y * y := Int.mul_le_mul_of_nonneg_right (by omega) (by omega)
      rw [Int.add_mul] at h2
      omega
    · exact h
theorem ceil_le {x y L : Int} (hy : 1 ≤ y) (h : x ≤ L * y) : ceilv x y ≤ L := by
  have hs := ceil_spec (x := x) hy
  have : (ceilv x y - 1) * y < L * y := by rw [Int.sub_mul]; omega
  have := Int.lt_of_mul_lt_mul_right this (by omega)
  omega
theorem upc (a b : Int) (ha : 0 ≤ a) (ha' : a ≤ 1125899906842624) (hb : 1 ≤ b) (hb' : b ≤ 1125899906842624) : ratio_Up.f a b = some (ceilv a b) := by
  rw [up_eq]
  congr 1
  unfold upv ceilv byv
  rw [cnt_id ha ha', cnt_id (n := b) (by omega) hb', show max 1 b = b by omega]
/-! ### the plan -/
def mayv (N W R K : Int) : Prop := 1 ≤ N ∧ N ≤ 1048576 ∧ 16 ≤ W ∧ W ≤ 256 ∧ 1 ≤ R ∧ R ≤ 4096 ∧ 1 ≤ K ∧ K ≤ 65536 ∧ N * W ≤ 4194304
instance (N W R K : Int) : Decidable (mayv N W R K) := by unfold mayv; infer_instance
theorem nw_small {N W : Int} (h1 : 1 ≤ N) (h2 : N ≤ 1048576) (h3 : 16 ≤ W) (h4 : W ≤ 256) : 16 ≤ N * W ∧ N * W ≤ 268435456 := by
  have a : 1 * 16 ≤ N * W := Int.mul_le_mul h1 h3 (by omega) (by omega)
  have b : N * W ≤ 1048576 * 256 := Int.mul_le_mul h2 h4 (by omega) (by omega)
  omega
theorem within_eq (n lo hi : Int) (_ : lo ≤ hi) : plan_within.f n lo hi = some (decide (lo ≤ n ∧ n ≤ hi)) := by
  unfold plan_within.f
  rw [clamp_eq]
  simp only [Option.bind_some]
  congr 1
  rw [Bool.eq_iff_iff, beq_iff_eq, decide_eq_true_eq]
  by_cases h1 : n > hi
  · rw [if_pos h1]; omega
  · rw [if_neg h1]
    by_cases h2 : n < lo
    · rw [if_pos h2]; omega
    · rw [if_neg h2]; omega
theorem check_eq (N W R K : Int) : plan_Check.f N W R K = some (if mayv N W R K then 0 else 1) := by
  unfold plan_Check.f
  simp only [within_eq _ 1 1048576 (by decide), within_eq _ 16 256 (by decide), within_eq _ 1 4096 (by decide), within_eq _ 1 65536 (by decide), Option.bind_some, decide_eq_true_eq]
  by_cases h1 : 1 ≤ N ∧ N ≤ 1048576
  · rw [if_pos h1]
    by_cases h2 : 16 ≤ W ∧ W ≤ 256
    · rw [if_pos h2]
      have := nw_small h1.1 h1.2 h2.1 h2.2
      rw [wrap64_id (by omega) (by omega)]
      by_cases h3 : 1 ≤ R ∧ R ≤ 4096
      · rw [if_pos h3]
        by_cases h4 : 1 ≤ K ∧ K ≤ 65536
        · rw [if_pos h4]
          by_cases h5 : N * W ≤ 4194304
          · rw [if_pos h5, if_pos (show mayv N W R K by unfold mayv; omega)]
          · rw [if_neg h5, if_neg (show ¬ mayv N W R K by unfold mayv; omega)]
        · rw [if_neg h4, if_neg (show ¬ mayv N W R K by unfold mayv; omega)]
      · rw [if_neg h3, if_neg (show ¬ mayv N W R K by unfold mayv; omega)]
    · rw [if_neg h2, if_neg (show ¬ mayv N W R K by unfold mayv; omega)]
  · rw [if_neg h1, if_neg (show ¬ mayv N W R K by unfold mayv; omega)]
def drainv (N W : Int) : Int := N * (W + 1)
def epochv (N W : Int) : Int := 3 * drainv N W + 4
def lagv (N W K : Int) : Int := 2 * ceilv (epochv N W) K + 2 * (W - 7)
def settlev (N W K : Int) : Int := ceilv (epochv N W + epochv N W + drainv N W) K + 2
def ofv (N W R K : Int) : Int × Int × Int × Int × Int × Int × Int × Int × Int :=
  if mayv N W R K then (24 + R + N * W, W - 8, W - 7, (W - 8) * (W - 1), epochv N W, drainv N W, lagv N W K, settlev N W K, 0) else (0, 0, 0, 0, 0, 0, 0, 0, 1)
theorem drain_bounds {N W R K : Int} (h : mayv N W R K) : 17 ≤ drainv N W ∧ drainv N W ≤ 5242880 ∧ drainv N W = N * W + N := by
  obtain ⟨a, b, c, d, _, _, _, _, e⟩ := h
  have := nw_small a b c d
  have e : drainv N W = N * W + N := by unfold drainv; rw [Int.mul_add]; omega
  omega
theorem of_eq (k : Nat) (hk : 200 ≤ k) (N W R K : Int) : plan_Of.f k N W R K = some (ofv N W R K) := by
  unfold plan_Of.f ofv
  rw [check_eq]
  simp only [Option.bind_some]
  by_cases h : mayv N W R K
  · simp only [if_pos h]
    rw [if_pos trivial]
    have hd := drain_bounds h
    obtain ⟨a, b, c, d, e, f, g, i, j⟩ := h
    have hs := nw_small a b c d
    have hf : (W - 8) * (W - 1) ≤ 248 * 255 := Int.mul_le_mul (by omega) (by omega) (by omega) (by omega)
    have hdr : N * (W + 1) = drainv N W := rfl
    have hep : 3 * drainv N W + 4 = epochv N W := rfl
    rw [wrap64_id (n := W - 8) (by omega) (by omega), wrap64_id (n := W - 1) (by omega) (by omega), wrap64_id (n := W + 1) (by omega) (by omega), wrap64_id (n := W - 8 + 1) (by omega) (by omega)]
    have c1 := ceil_bounds (x := epochv N W) (y := K) (by omega) g
    have c2 := ceil_bounds (x := epochv N W + epochv N W + drainv N W) (y := K) (by omega) g
    rw [mul2 k hk (a := N) (b := W) (by omega) (by omega) (by omega) (by omega) (by omega)]
    simp only [Option.bind_some]
    rw [add3 k hk (by omega) (by omega) (by omega) (by omega)]
    simp only [Option.bind_some]
    rw [mul2 k hk (a := W - 8) (b := W - 1) (by omega) (by omega) (by omega) (by omega) (by omega)]
    simp only [Option.bind_some]
    rw [mul2 k hk (a := N) (b := W + 1) (by omega) (by omega) (by omega) (by omega) (by omega), hdr]
    simp only [Option.bind_some]
    rw [mul2 k hk (a := 3) (b := drainv N W) (by omega) (by omega) (by omega) (by omega) (by omega)]
    simp only [Option.bind_some]
    rw [add2 k hk (by omega) (by omega) (by omega), hep]
    simp only [Option.bind_some]
    rw [upc _ _ (by omega) (by omega) g (by omega)]
    simp only [Option.bind_some]
    rw [mul2 k hk (a := 2) (b := ceilv (epochv N W) K) (by omega) (by omega) (by omega) (by omega) (by omega)]
    simp only [Option.bind_some]
    rw [show W - 8 + 1 = W - 7 by omega, mul2 k hk (a := 2) (b := W - 7) (by omega) (by omega) (by omega) (by omega) (by omega)]
    simp only [Option.bind_some]
    rw [add2 k hk (by omega) (by omega) (by omega)]
    simp only [Option.bind_some]
    rw [add3 k hk (by omega) (by omega) (by omega) (by omega)]
    simp only [Option.bind_some]
    rw [upc _ _ (by omega) (by omega) g (by omega)]
    simp only [Option.bind_some]
    rw [add2 k hk (by omega) (by omega) (by omega)]
    rfl
  · simp only [if_neg h]
    rw [if_neg (by decide)]
theorem has_eq (l : List Int) (m a : Int) : store_Store_has.f l m a = some (decide (0 ≤ a ∧ a < (l.length : Int))) := by
  unfold store_Store_has.f
  by_cases h : a ≥ 0
  · rw [if_pos h]; congr 1; exact decide_eq_decide.2 (by omega)
  · rw [if_neg h]; congr 1; exact (decide_eq_false (by omega)).symm
theorem put_eq (l : List Int) (m i w : Int) : store_Store_Put.f l m i w = some (if 0 ≤ i ∧ i < (l.length : Int) then (true, IntKind.u64.wrap (m + 1), l.set i.toNat w) else (false, m, l)) := by
  unfold store_Store_Put.f
  rw [has_eq]
  simp only [Option.bind_some, decide_eq_true_eq]
  by_cases h : 0 ≤ i ∧ i < (l.length : Int)
  · rw [if_pos h, if_pos h]
    simp only [atomic_Uint64_Add.f, Option.bind_some]
    rw [if_pos h.1, if_pos h.2]
  · rw [if_neg h, if_neg h]
theorem get_eq (l : List Int) (m i : Int) : store_Store_Get.f l m i = some (if 0 ≤ i ∧ i < (l.length : Int) then (rd l i, IntKind.u64.wrap (m + 1)) else (0, m)) := by
  unfold store_Store_Get.f
  rw [has_eq]
  simp only [Option.bind_some, decide_eq_true_eq]
  by_cases h : 0 ≤ i ∧ i < (l.length : Int)
  · rw [if_pos h, if_pos h]
    simp only [atomic_Uint64_Add.f, Option.bind_some]
    rw [if_pos h.1, if_pos h.2]
  · rw [if_neg h, if_neg h]
theorem peek_eq (l : List Int) (m i : Int) : store_Store_Peek.f l m i = some (if 0 ≤ i ∧ i < (l.length : Int) then rd l i else 0) := by
  unfold store_Store_Peek.f
  rw [has_eq]
  simp only [Option.bind_some, decide_eq_true_eq]
  by_cases h : 0 ≤ i ∧ i < (l.length : Int)
  · rw [if_pos h, if_pos h, if_pos h.1, if_pos h.2]
  · rw [if_neg h, if_neg h]
theorem new_in (n : Int) (h0 : 0 ≤ n) (h1 : n ≤ 8388608) : store_New.f n = some (.inr (List.replicate n.toNat 0)) := by
  unfold store_New.f
  rw [if_neg (by omega), if_neg (by omega)]
  unfold M.mkLen
  rw [if_pos (by omega)]
  rfl
theorem new_out (n : Int) (h : n < 0 ∨ 8388608 < n) : store_New.f n = some (.inl ()) := by
  unfold store_New.f
  by_cases h0 : n < 0
  · rw [if_pos h0]
  · rw [if_neg h0, if_pos (by omega)]
theorem rd_nat (l : List Int) (j : Nat) (h : j < l.length) : rd l (j : Int) = l[j] := by
  simp [rd, List.getD_eq_getElem?_getD, List.getElem?_eq_getElem h]
theorem rd_set (l : List Int) (i j : Int) (x : Int) (h0 : 0 ≤ i) (h1 : i < (l.length : Int)) (h2 : 0 ≤ j) : rd (l.set i.toNat x) j = if i = j then x else rd l j := by
  simp only [rd, List.getD_eq_getElem?_getD, List.getElem?_set]
  by_cases h : i = j
  · subst h; rw [if_pos rfl, if_pos (show i.toNat < l.length by omega), if_pos rfl]; rfl
  · rw [if_neg (show ¬ i.toNat = j.toNat by omega), if_neg h]
theorem next_i (j : Nat) (h : j < 4611686018427387904) : wrap64 ((j : Int) + 1) = ((j + 1 : Nat) : Int) := by
  unfold wrap64; omega
theorem w0 : wrap64 0 = 0 := by unfold wrap64; decide
theorem mayW {N W R K : Int} (h : mayv N W R K) : 0 ≤ 24 + R + N * W ∧ 24 + R + N * W ≤ 8388608 := by
  have := nw_small h.1 h.2.1 h.2.2.1 h.2.2.2.1
  unfold mayv at h
  generalize N * W = q at *
  omega
/-- How many words a ground has. -/
def sizev (N W R : Int) : Nat := (24 + R + N * W).toNat
theorem size_cast {N W R K : Int} (h : mayv N W R K) : ((sizev N W R : Nat) : Int) = 24 + R + N * W := by
  unfold sizev; have := (mayW h).1; omega
theorem gnew_may (k : Nat) (hk : 200 ≤ k) (N W R K : Int) (h : mayv N W R K) : ground_New.f k N W R K = some (.inr (.inl (N, W, R, K, List.replicate (sizev N W R) 0))) := by
  unfold ground_New.f
  rw [of_eq k hk]
  unfold ofv
  simp only [Option.bind_some]
  rw [if_pos h]
  simp only [if_true]
  rw [new_in _ (mayW h).1 (mayW h).2]
  rfl
theorem gnew_not (k : Nat) (hk : 200 ≤ k) (N W R K : Int) (h : ¬ mayv N W R K) : ground_New.f k N W R K = some (.inr (.inr 1)) := by
  unfold ground_New.f
  rw [of_eq k hk]
  unfold ofv
  simp only [Option.bind_some]
  rw [if_neg h]
  rfl
def littlev (N W R : Int) : Prop := N ≤ 300 ∧ W ≤ 64 ∧ R ≤ 40
instance (N W R : Int) : Decidable (littlev N W R) := by unfold littlev; infer_instance
theorem within_in (i m f : Int) (h0 : 0 ≤ i) (h1 : i < m) : ground_within.f i m f = some (wrap64 (f + i)) := by
  unfold ground_within.f
  rw [if_neg (by omega), if_neg (by omega)]
theorem within_out (i m f : Int) (h : i < 0 ∨ m ≤ i) : ground_within.f i m f = some (-1) := by
  unfold ground_within.f
  by_cases h0 : i < 0
  · rw [if_pos h0]
  · rw [if_neg h0, if_pos (by omega)]
/-- Where a register, a root slot and a block's word are; none: there is none. -/
def regv (i : Int) : Option Nat := if 0 ≤ i ∧ i < 24 then some i.toNat else none
def rootv (R i : Int) : Option Nat := if 0 ≤ i ∧ i < R then some (24 + i).toNat else none
def wordv (N W R b w : Int) : Option Nat := if (0 ≤ b ∧ b < N) ∧ 0 ≤ w ∧ w < W then some (24 + R + b * W + w).toNat else none
def posv : Option Nat → Int
  | some n => n
  | none => -1
theorem reg_eq (i : Int) : ground_reg.f i = some (posv (regv i)) := by
  unfold ground_reg.f regv
  by_cases h : 0 ≤ i ∧ i < 24
  · rw [within_in _ _ _ h.1 h.2, if_pos h, wrap64_id (by omega) (by omega)]
    simp only [Option.bind_some, posv]; congr 1; omega
  · rw [within_out _ _ _ (by omega), if_neg h]; rfl
theorem bw_small {N W R K b : Int} (h : mayv N W R K) (h0 : 0 ≤ b) (h1 : b < N) : 0 ≤ b * W ∧ b * W + W ≤ N * W := by
  have hW : (0 : Int) ≤ W := by unfold mayv at h; omega
  constructor
  · exact Int.mul_nonneg h0 hW
  · have := Int.mul_le_mul_of_nonneg_right (show b + 1 ≤ N by omega) hW
    rw [Int.add_mul, Int.one_mul] at this
    exact this
theorem word_eq (l : List Int) (m N W R K b w : Int) (h : mayv N W R K) : ground_Ground_word.f l m N W R K b w = some (posv (wordv N W R b w)) := by
  unfold ground_Ground_word.f ground_Ground_Conf.f wordv
  simp only [Option.bind_some]
  by_cases hb : 0 ≤ b ∧ b < N
  · rw [within_in _ _ _ hb.1 hb.2]
    simp only [Option.bind_some]
    have hs := bw_small h hb.1 hb.2
    have hn := nw_small h.1 h.2.1 h.2.2.1 h.2.2.2.1
    unfold mayv at h
    rw [wrap64_id (n := 0 + b) (by omega) (by omega), if_neg (by omega), wrap64_id (n := 24 + R) (by omega) (by omega)]
    generalize b * W = q at *
    generalize N * W = t at *
    rw [wrap64_id (n := q) (by omega) (by omega), wrap64_id (n := 24 + R + q) (by omega) (by omega)]
    by_cases hw : 0 ≤ w ∧ w < W
    · rw [within_in _ _ _ hw.1 hw.2, if_pos ⟨hb, hw⟩, wrap64_id (by omega) (by omega)]
      simp only [Option.bind_some, posv]; congr 1; omega
    · rw [within_out _ _ _ (by omega), if_neg (fun h => hw h.2)]; rfl
  · rw [within_out _ _ _ (by omega), if_neg (fun h => hb h.1)]
    rfl
/-- What a ground of so many words does at a place. -/
theorem regv_lt {N W R K : Int} (h : mayv N W R K) {i : Int} {p : Nat} (hp : regv i = some p) : p < sizev N W R ∧ (p : Int) = i ∧ p < 24 := by
  unfold regv at hp
  split at hp
  · cases hp
    have := size_cast h
    have := (nw_small h.1 h.2.1 h.2.2.1 h.2.2.2.1)
    unfold mayv at h
    generalize N * W = q at *
    omega
  · cases hp
theorem rootv_lt {N W R K : Int} (h : mayv N W R K) {i : Int} {p : Nat} (hp : rootv R i = some p) : p < sizev N W R ∧ (p : Int) = 24 + i ∧ (p : Int) < 24 + R ∧ 24 ≤ p := by
  unfold rootv at hp
  split at hp
  · cases hp
    have := size_cast h
    have := (nw_small h.1 h.2.1 h.2.2.1 h.2.2.2.1)
    unfold mayv at h
    generalize N * W = q at *
    omega
  · cases hp
theorem wordv_lt {N W R K : Int} (h : mayv N W R K) {b w : Int} {p : Nat} (hp : wordv N W R b w = some p) : p < sizev N W R ∧ (p : Int) = 24 + R + b * W + w ∧ 24 + R ≤ (p : Int) ∧ 0 ≤ w ∧ w < W ∧ 0 ≤ b ∧ b < N := by
  unfold wordv at hp
  split at hp
  · next hc =>
    cases hp
    have := size_cast h
    have hs := bw_small h hc.1.1 hc.1.2
    unfold mayv at h
    generalize b * W = q at *
    generalize N * W = t at *
    omega
  · cases hp
/-- What is got at a place, and the meter then. -/
def sgetv (l : List Int) (m : Int) (p : Option Nat) : Int × Int := match p with
  | some n => (rd l (n : Int), IntKind.u64.wrap (m + 1))
  | none => (0, m)
def sputv (l : List Int) (m : Int) (p : Option Nat) (v : Int) : Bool × Int × List Int := match p with
  | some n => (true, IntKind.u64.wrap (m + 1), l.set n v)
  | none => (false, m, l)
theorem sget_eq (l : List Int) (m : Int) (p : Option Nat) (hp : ∀ n, p = some n → n < l.length) : store_Store_Get.f l m (posv p) = some (sgetv l m p) := by
  rw [get_eq]
  cases p with
  | none => rw [if_neg (by simp [posv])]; rfl
  | some n => have := hp n rfl; rw [if_pos (by simp [posv]; omega)]; rfl
theorem sput_eq (l : List Int) (m : Int) (p : Option Nat) (v : Int) (hp : ∀ n, p = some n → n < l.length) : store_Store_Put.f l m (posv p) v = some (sputv l m p v) := by
  rw [put_eq]
  cases p with
  | none => rw [if_neg (by simp [posv])]; rfl
  | some n => have := hp n rfl; rw [if_pos (by simp [posv]; omega)]; simp [sputv, posv]
/-- A ground that may be: so many words, each of 32 bits. -/
structure OK (N W R K : Int) (l : List Int) : Prop where
  may : mayv N W R K
  len : l.length = sizev N W R
  u32 : ∀ i : Nat, 0 ≤ rd l (i : Int) ∧ rd l (i : Int) < 4294967296
theorem rd_out (l : List Int) (i : Nat) (h : l.length ≤ i) : rd l (i : Int) = 0 := by
  simp [rd, List.getD_eq_getElem?_getD, List.getElem?_eq_none h]
theorem rd_setN (l : List Int) (i j : Nat) (x : Int) (h : i < l.length) : rd (l.set i x) (j : Int) = if i = j then x else rd l (j : Int) := by
  have := rd_set l (i : Int) (j : Int) x (by omega) (by omega) (by omega)
  simp only [Int.toNat_natCast] at this
  rw [this]
  by_cases h : i = j
  · rw [if_pos (by omega), if_pos h]
  · rw [if_neg (by omega), if_neg h]
theorem OK.set {N W R K : Int} {l : List Int} (h : OK N W R K l) (n : Nat) (v : Int) (h0 : 0 ≤ v) (h1 : v < 4294967296) : OK N W R K (l.set n v) := by
  refine ⟨h.may, by rw [List.length_set]; exact h.len, fun i => ?_⟩
  rcases Nat.lt_or_ge n l.length with hn | hn
  · rw [rd_setN l n i v hn]
    split
    · exact ⟨h0, h1⟩
    · exact h.u32 i
  · rw [List.set_eq_of_length_le hn]; exact h.u32 i
theorem OK.zero {N W R K : Int} (h : mayv N W R K) : OK N W R K (List.replicate (sizev N W R) 0) := by
  refine ⟨h, by simp, fun i => ?_⟩
  have : rd (List.replicate (sizev N W R) (0 : Int)) (i : Int) = 0 := by
    simp only [rd, List.getD_eq_getElem?_getD, List.getElem?_replicate, Int.toNat_natCast]
    split <;> rfl
  rw [this]; decide
theorem OK.small {N W R K : Int} {l : List Int} (h : OK N W R K l) : l.length ≤ 8388608 := by
  have := size_cast h.may
  have := mayW h.may
  have := h.len
  omega
theorem Reg_eq {N W R K : Int} {l : List Int} (h : OK N W R K l) (m i : Int) : ground_Ground_Reg.f l m N W R K i = some (sgetv l m (regv i)) := by
  unfold ground_Ground_Reg.f ground_Ground_all.f
  simp only [Option.bind_some]
  rw [reg_eq]
  simp only [Option.bind_some]
  rw [sget_eq l m _ (fun n hn => by rw [h.len]; exact (regv_lt h.may hn).1)]
  simp only [Option.bind_some]
  congr 1
  cases hr : regv i with
  | none => show (wrap64 0, m) = (0, m); rw [w0]
  | some n => have := h.u32 n; simp only [sgetv]; rw [wrap64_id (by omega) (by omega)]
theorem Word_eq {N W R K : Int} {l : List Int} (h : OK N W R K l) (m b w : Int) : ground_Ground_Word.f l m N W R K b w = some (sgetv l m (wordv N W R b w)) := by
  unfold ground_Ground_Word.f ground_Ground_all.f
  simp only [Option.bind_some]
  rw [word_eq l m N W R K b w h.may]
  simp only [Option.bind_some]
  rw [sget_eq l m _ (fun n hn => by rw [h.len]; exact (wordv_lt h.may hn).1)]
  rfl
theorem set_eq {N W R K : Int} {l : List Int} (m : Int) (p : Option Nat) (hp : ∀ n, p = some n → n < l.length) (v : Int) : ground_Ground_set.f l m N W R K (posv p) v = some (if 0 ≤ v ∧ v < 4294967296 then sputv l m p v else (false, m, l)) := by
  unfold ground_Ground_set.f ground_Ground_all.f
  by_cases h0 : v < 0
  · rw [if_pos h0, if_neg (by omega)]
  · by_cases h1 : v > 4294967295
    · rw [if_neg h0, if_pos h1, if_neg (by omega)]
    · rw [if_neg h0, if_neg h1, if_pos (by omega)]
      simp only [Option.bind_some]
      rw [show v % 4294967296 = v by omega, sput_eq l m p v hp]
      rfl
theorem SetReg_eq {N W R K : Int} {l : List Int} (h : OK N W R K l) (m i v : Int) : ground_Ground_SetReg.f l m N W R K i v = some (if 0 ≤ v ∧ v < 4294967296 then sputv l m (regv i) v else (false, m, l)) := by
  unfold ground_Ground_SetReg.f
  rw [reg_eq]
  simp only [Option.bind_some]
  rw [set_eq m _ (fun n hn => by rw [h.len]; exact (regv_lt h.may hn).1)]
  rfl
theorem SetWord_eq {N W R K : Int} {l : List Int} (h : OK N W R K l) (m b w v : Int) : ground_Ground_SetWord.f l m N W R K b w v = some (sputv l m (wordv N W R b w) v) := by
  unfold ground_Ground_SetWord.f ground_Ground_all.f
  simp only [Option.bind_some]
  rw [word_eq l m N W R K b w h.may]
  simp only [Option.bind_some]
  rw [sput_eq l m _ v (fun n hn => by rw [h.len]; exact (wordv_lt h.may hn).1)]
  rfl
theorem mul_apart {W b c v w : Int} (hv : 0 ≤ v) (hv' : v < W) (hw : 0 ≤ w) (hw' : w < W) (h : b * W + v = c * W + w) : b = c ∧ v = w := by
  have hb : b = c := by
    rcases Int.lt_trichotomy b c with h1 | h1 | h1
    · have := Int.mul_le_mul_of_nonneg_right (show b + 1 ≤ c by omega) (show 0 ≤ W by omega)
      rw [Int.add_mul, Int.one_mul] at this
      omega
    · exact h1
    · have := Int.mul_le_mul_of_nonneg_right (show c + 1 ≤ b by omega) (show 0 ≤ W by omega)
      rw [Int.add_mul, Int.one_mul] at this
      omega
  subst hb
  exact ⟨rfl, by omega⟩

/-- popcount -/
def pc : Nat → Nat
  | 0 => 0
  | n + 1 => (n + 1) % 2 + pc ((n + 1) / 2)
termination_by n => n
decreasing_by omega

theorem pc_eq (n : Nat) : pc n = n % 2 + pc (n / 2) := by
  cases n with
  | zero => simp [pc]
  | succ n => rw [pc]

theorem and_pred_even (y : Nat) (h : 0 < y) : (2 * y) &&& (2 * y - 1) = 2 * (y &&& (y - 1)) := by
  have e : 2 * y - 1 = 2 * (y - 1) + 1 := by omega
  rw [e]
  apply Nat.eq_of_testBit_eq
  intro i
  cases i with
  | zero => simp [Nat.testBit_zero]
  | succ i =>
    rw [Nat.testBit_and, Nat.testBit_succ, Nat.testBit_succ, Nat.testBit_succ, show 2 * y / 2 = y by omega, show (2 * (y - 1) + 1) / 2 = y - 1 by omega, show 2 * (y &&& (y - 1)) / 2 = y &&& (y - 1) by omega, Nat.testBit_and]
theorem and_pred_odd (y : Nat) : (2 * y + 1) &&& (2 * y) = 2 * y := by
  apply Nat.eq_of_testBit_eq
  intro i
  cases i with
  | zero => simp [Nat.testBit_zero]
  | succ i =>
    rw [Nat.testBit_and, Nat.testBit_succ, Nat.testBit_succ, show 2 * y / 2 = y by omega, show (2 * y + 1) / 2 = y by omega, Bool.and_self]
theorem pc_double (n : Nat) : pc (2 * n) = pc n := by
  rw [pc_eq]; simp
theorem pc_double1 (n : Nat) : pc (2 * n + 1) = pc n + 1 := by
  rw [pc_eq, show (2 * n + 1) % 2 = 1 by omega, show (2 * n + 1) / 2 = n by omega]; omega
theorem pc_and_pred : ∀ n : Nat, 0 < n → pc (n &&& (n - 1)) + 1 = pc n := by
  intro n
  induction n using Nat.strongRecOn with
  | _ n ih =>
    intro h
    rcases Nat.mod_two_eq_zero_or_one n with e | e
    · obtain ⟨y, rfl⟩ : ∃ y, n = 2 * y := ⟨n / 2, by omega⟩
      rw [and_pred_even y (by omega), pc_double, pc_double, ih y (by omega) (by omega)]
    · obtain ⟨y, rfl⟩ : ∃ y, n = 2 * y + 1 := ⟨n / 2, by omega⟩
      rw [show 2 * y + 1 - 1 = 2 * y by omega, and_pred_odd, pc_double, pc_double1]
theorem and_pred_lt (n : Nat) (h : 0 < n) : n &&& (n - 1) < n := by
  have := @Nat.and_le_right n (n - 1)
  omega
theorem pc_pow (k n : Nat) (h : n < 2 ^ k) : pc n ≤ k := by
  induction k generalizing n with
  | zero => simp at h; subst h; simp [pc]
  | succ k ih =>
    rw [pc_eq]
    have := ih (n / 2) (by rw [Nat.pow_succ] at h; omega)
    omega

theorem u32_and (a b : Nat) (ha : a < 2 ^ 32) (hb : b < 2 ^ 32) : bits .and .u32 a b = ((a &&& b : Nat) : Int) :=
  (bits_nat .u32 32 (by decide) (fun n h0 h1 => by rw [IntKind.wrap_u32]; omega) a b ha hb).1
theorem u32_or (a b : Nat) (ha : a < 2 ^ 32) (hb : b < 2 ^ 32) : bits .or .u32 a b = ((a ||| b : Nat) : Int) :=
  (bits_nat .u32 32 (by decide) (fun n h0 h1 => by rw [IntKind.wrap_u32]; omega) a b ha hb).2

def getN (w a n : Nat) : Nat := w / 2 ^ a % 2 ^ n
def putN (w a n v : Nat) : Nat := 2 ^ a * (2 ^ n * (w / 2 ^ (a + n)) + v) + w % 2 ^ a

theorem getN_bit (w a n j : Nat) : (getN w a n).testBit j = (decide (j < n) && w.testBit (a + j)) := by
  unfold getN; rw [Nat.testBit_mod_two_pow, Nat.testBit_div_two_pow, Nat.add_comm]
theorem getN_lt (w a n : Nat) : getN w a n < 2 ^ n := Nat.mod_lt _ (Nat.two_pow_pos n)
theorem putN_bit (w a n v j : Nat) (hv : v < 2 ^ n) : (putN w a n v).testBit j = if j < a then w.testBit j else if j < a + n then v.testBit (j - a) else w.testBit j := by
  unfold putN
  rw [Nat.testBit_two_pow_mul_add _ (Nat.mod_lt _ (Nat.two_pow_pos a))]
  split
  · rename_i h; rw [Nat.testBit_mod_two_pow]; simp [h]
  · rename_i h
    rw [Nat.testBit_two_pow_mul_add _ hv]
    by_cases h2 : j < a + n
    · rw [if_pos (by omega), if_pos h2]
    · rw [if_neg (by omega), if_neg h2, Nat.testBit_div_two_pow]; congr 1; omega
theorem bit_big {v n j : Nat} (hv : v < 2 ^ n) (h : n ≤ j) : v.testBit j = false := Nat.testBit_lt_two_pow (Nat.lt_of_lt_of_le hv (Nat.pow_le_pow_right (by decide) h))
theorem putN_lt (w a n v m : Nat) (hv : v < 2 ^ n) (hw : w < 2 ^ m) (h : a + n ≤ m) : putN w a n v < 2 ^ m := by
  apply Nat.lt_pow_two_of_testBit
  intro j hj
  rw [putN_bit _ _ _ _ _ hv, if_neg (by omega), if_neg (by omega)]
  exact bit_big hw hj
theorem get_put (w a n v : Nat) (hv : v < 2 ^ n) : getN (putN w a n v) a n = v := by
  apply Nat.eq_of_testBit_eq
  intro j
  rw [getN_bit, putN_bit _ _ _ _ _ hv]
  by_cases h : j < n
  · rw [if_neg (by omega), if_pos (by omega)]; simp [h]
  · simp [h, bit_big hv (show n ≤ j by omega)]
theorem get_put_other (w a n v b m : Nat) (hv : v < 2 ^ n) (h : a + n ≤ b ∨ b + m ≤ a) : getN (putN w a n v) b m = getN w b m := by
  apply Nat.eq_of_testBit_eq
  intro j
  rw [getN_bit, getN_bit, putN_bit _ _ _ _ _ hv]
  by_cases hj : j < m
  · rcases h with h | h
    · rw [if_neg (by omega), if_neg (by omega)]
    · rw [if_pos (by omega)]
  · simp [hj]
theorem put_get (w a n v : Nat) (hv : v < 2 ^ n) : putN (putN w a n v) a n (getN w a n) = w := by
  apply Nat.eq_of_testBit_eq
  intro j
  rw [putN_bit _ _ _ _ _ (getN_lt _ _ _), putN_bit _ _ _ _ _ hv, getN_bit]
  by_cases h1 : j < a
  · simp [h1]
  · by_cases h2 : j < a + n
    · simp [h1, h2, show j - a < n by omega, show a + (j - a) = j by omega]
    · simp [h1, h2]
theorem and_mask (w a n : Nat) : w &&& ((2 ^ n - 1) * 2 ^ a) = getN w a n * 2 ^ a := by
  apply Nat.eq_of_testBit_eq
  intro j
  rw [Nat.testBit_and, Nat.testBit_mul_two_pow, Nat.testBit_mul_two_pow, getN_bit, Nat.testBit_two_pow_sub_one]
  by_cases h : a ≤ j
  · simp [h, show a + (j - a) = j by omega, Bool.and_comm]
  · simp [h]
theorem put_sum (w a n v : Nat) : putN w a n v + getN w a n * 2 ^ a = w + v * 2 ^ a := by
  unfold putN getN
  have h1 : w / 2 ^ (a + n) = w / 2 ^ a / 2 ^ n := by rw [Nat.pow_add, Nat.div_div_eq_div_mul]
  rw [h1]
  have h2 := Nat.div_add_mod w (2 ^ a)
  have h3 := Nat.div_add_mod (w / 2 ^ a) (2 ^ n)
  generalize w % 2 ^ a = m at *
  generalize w / 2 ^ a = q at *
  generalize q / 2 ^ n = p at *
  generalize q % 2 ^ n = r at *
  rw [← h2, ← h3, Nat.mul_add, Nat.mul_add, Nat.mul_comm r, Nat.mul_comm v]
  omega
/-- What Go's Put computes: the bits that are not the piece's, and v. -/
theorem put_bits (w a n v : Nat) (hw : w < 2 ^ 32) (hv : v < 2 ^ n) (h : a + n ≤ 32) :
    bits .or .u32 (bits .andNot .u32 w (((2 ^ n - 1) * 2 ^ a : Nat) : Int)) ((v * 2 ^ a : Nat) : Int) = ((putN w a n v : Nat) : Int) := by
  have hva : v * 2 ^ a < 2 ^ 32 := Nat.lt_of_lt_of_le (Nat.mul_lt_mul_of_pos_right hv (Nat.two_pow_pos a)) (by rw [← Nat.pow_add]; exact Nat.pow_le_pow_right (by decide) (by omega))
  have hma : (2 ^ n - 1) * 2 ^ a < 2 ^ 32 := Nat.lt_of_lt_of_le (Nat.mul_lt_mul_of_pos_right (Nat.sub_lt (Nat.two_pow_pos n) (by decide)) (Nat.two_pow_pos a)) (by rw [← Nat.pow_add]; exact Nat.pow_le_pow_right (by decide) (by omega))
  have e1 : bits .andNot .u32 (w : Int) (((2 ^ n - 1) * 2 ^ a : Nat) : Int) = (((BitVec.ofNat 32 w &&& ~~~ (BitVec.ofNat 32 ((2 ^ n - 1) * 2 ^ a))).toNat : Nat) : Int) := by
    have e : ∀ x : BitVec 32, IntKind.u32.wrap (x.toNat : Int) = ((x.toNat : Nat) : Int) := fun x => by
      rw [IntKind.wrap_u32]
      have := x.isLt
      omega
    simp only [bits, BitVec.ofInt_natCast]
    exact e _
  rw [e1, (bits_nat .u32 32 (by decide) (fun n h0 h1 => by rw [IntKind.wrap_u32]; omega) _ _ (BitVec.isLt _) hva).2]
  congr 1
  apply Nat.eq_of_testBit_eq
  intro j
  rw [Nat.testBit_or, BitVec.testBit_toNat, BitVec.getLsbD_and, BitVec.getLsbD_not, BitVec.getLsbD_ofNat, BitVec.getLsbD_ofNat, putN_bit _ _ _ _ _ hv, Nat.testBit_mul_two_pow, Nat.testBit_mul_two_pow, Nat.testBit_two_pow_sub_one]
  by_cases h32 : j < 32
  · by_cases h1 : j < a
    · simp [h32, h1, show ¬ a ≤ j by omega]
    · by_cases h2 : j < a + n
      · simp [h32, h1, h2, show a ≤ j by omega, show j - a < n by omega]
      · simp [h32, h1, h2, show a ≤ j by omega, show ¬ j - a < n by omega, bit_big hv (show n ≤ j - a by omega)]
  · simp [h32, show ¬ j < a by omega, show ¬ j < a + n by omega, show a ≤ j by omega, bit_big hv (show n ≤ j - a by omega), bit_big hw (show 32 ≤ j by omega)]
theorem w64 {n : Int} (h0 : 0 ≤ n) (h1 : n < 18446744073709551616) : IntKind.u64.wrap n = n := by rw [IntKind.wrap_u64]; omega
theorem two_le {a b : Nat} (h : a ≤ b) : 2 ^ a ≤ 2 ^ b := Nat.pow_le_pow_right (by decide) h
def piecev (at_ n : Int) : Prop := 0 ≤ at_ ∧ 1 ≤ n ∧ n ≤ 32 ∧ at_ ≤ 32 - n
instance (a n : Int) : Decidable (piecev a n) := by unfold piecev; infer_instance
theorem isPiece_eq (a n : Int) : pack_isPiece.f a n = some (decide (piecev a n)) := by
  unfold pack_isPiece.f
  by_cases h1 : a ≥ 0
  · rw [if_pos h1]
    by_cases h2 : n ≥ 1
    · rw [if_pos h2]
      by_cases h3 : n ≤ 32
      · rw [if_pos h3, wrap64_id (by omega) (by omega)]; congr 1; exact decide_eq_decide.2 (by unfold piecev; omega)
      · rw [if_neg h3]; congr 1; exact (decide_eq_false (by unfold piecev; omega)).symm
    · rw [if_neg h2]; congr 1; exact (decide_eq_false (by unfold piecev; omega)).symm
  · rw [if_neg h1]; congr 1; exact (decide_eq_false (by unfold piecev; omega)).symm
def capv (n : Int) : Nat := min n.toNat 32
def fitsv (v : Nat) (n : Int) : Prop := v < 2 ^ capv n
instance (v : Nat) (n : Int) : Decidable (fitsv v n) := by unfold fitsv; infer_instance
theorem mask_all : ∀ n < 33, ∀ a < 33, 1 ≤ n → a + n ≤ 32 → pack_mask.f (a : Nat) (n : Nat) = some (((2 ^ n - 1) * 2 ^ a : Nat) : Int) := by decide +kernel
theorem pget_eq (w : Nat) (hw : w < 4294967296) (a n : Int) : pack_Get.f w a n = some (if piecev a n then ((getN w a.toNat n.toNat : Nat) : Int) else 0) := by
  unfold pack_Get.f
  rw [isPiece_eq]
  simp only [Option.bind_some, decide_eq_true_eq]
  by_cases h : piecev a n
  · rw [if_pos h, if_pos h]
    obtain ⟨h1, h2, h3, h4⟩ := h
    obtain ⟨a, rfl⟩ := Int.eq_ofNat_of_zero_le h1
    obtain ⟨n, rfl⟩ := Int.eq_ofNat_of_zero_le (show 0 ≤ n by omega)
    have hmask : (2 ^ n - 1) * 2 ^ a < 2 ^ 32 := Nat.lt_of_lt_of_le (Nat.mul_lt_mul_of_pos_right (Nat.sub_lt (Nat.two_pow_pos n) (by decide)) (Nat.two_pow_pos a)) (by rw [← Nat.pow_add]; exact Nat.pow_le_pow_right (by decide) (by omega))
    rw [mask_all n (by omega) a (by omega) (by omega) (by omega)]
    simp only [Option.bind_some]
    rw [w64 (by omega) (by omega), if_pos (by omega), u32_and w _ (by omega) hmask, and_mask]
    simp only [Int.toNat_natCast]
    congr 1
    have e : (2 : Int) ^ min a 32 = ((2 ^ a : Nat) : Int) := by rw [Int.natCast_pow, show min a 32 = a by omega]; rfl
    rw [e, ← Int.natCast_ediv, Nat.mul_div_cancel _ (Nat.two_pow_pos a)]
  · rw [if_neg h, if_neg h]
def putv (w : Nat) (a n : Int) (v : Nat) : Int × Int := if piecev a n then (if fitsv v n then (((putN w a.toNat n.toNat v : Nat) : Int), 0) else (0, 15)) else (0, 2)
theorem one_eq (a n w : Nat) (hw : w < 4294967296) (hn : 1 ≤ n) (h : a + n ≤ 32) : tag_Unpack_1.f a n w = some ((w / 2 ^ a % 2 ^ n : Nat) : Int) := by
  unfold tag_Unpack_1.f
  rw [pget_eq w hw, if_pos (by unfold piecev; omega)]
  simp only [Option.bind_some, Int.toNat_natCast]
  unfold getN
  have h1 : w / 2 ^ a % 2 ^ n ≤ w / 2 ^ a := Nat.mod_le _ _
  have h2 : w / 2 ^ a ≤ w := Nat.div_le_self _ _
  rw [wrap64_id (by omega) (by omega)]
theorem unpack_eq (w : Nat) (hw : w < 4294967296) : tag_Unpack.f (w : Int) = some (((w % 4 : Nat) : Int), ((w / 4 % 2 : Nat) : Int), ((w / 8 % 2 : Nat) : Int), ((w / 16 % 2 : Nat) : Int), ((w / 32 % 2 : Nat) : Int), ((w / 64 % 2 : Nat) : Int), ((w / 256 : Nat) : Int)) := by
  unfold tag_Unpack.f
  have e0 := one_eq 0 2 w hw (by decide) (by decide)
  have e1 := one_eq 2 1 w hw (by decide) (by decide)
  have e2 := one_eq 3 1 w hw (by decide) (by decide)
  have e3 := one_eq 4 1 w hw (by decide) (by decide)
  have e4 := one_eq 5 1 w hw (by decide) (by decide)
  have e5 := one_eq 6 1 w hw (by decide) (by decide)
  have e6 := one_eq 8 24 w hw (by decide) (by decide)
  have z0 : w / 2 ^ 0 % 2 ^ 2 = w % 4 := by simp
  have z6 : w / 2 ^ 8 % 2 ^ 24 = w / 256 := by omega
  rw [z0] at e0
  rw [z6] at e6
  rw [show tag_Unpack_1.f 0 2 (w : Int) = _ from e0, show tag_Unpack_1.f 2 1 (w : Int) = _ from e1, show tag_Unpack_1.f 3 1 (w : Int) = _ from e2, show tag_Unpack_1.f 4 1 (w : Int) = _ from e3, show tag_Unpack_1.f 5 1 (w : Int) = _ from e4, show tag_Unpack_1.f 6 1 (w : Int) = _ from e5, show tag_Unpack_1.f 8 24 (w : Int) = _ from e6]
  rfl
/-- The place of a block's link word. -/
def linkp (W R b : Int) : Nat := (24 + R + b * W + 5).toNat
def link (W R : Int) (l : List Int) (b : Int) : Int := rd l (linkp W R b : Int)
theorem linkp_eq {N W R K : Int} (h : mayv N W R K) {b : Int} (hb : 0 ≤ b ∧ b < N) : wordv N W R b 5 = some (linkp W R b) := by
  unfold wordv linkp
  rw [if_pos ⟨hb, by decide, by have := h.2.2.1; omega⟩]
theorem linkp_lt {N W R K : Int} (h : mayv N W R K) {b : Int} (hb : 0 ≤ b ∧ b < N) : linkp W R b < sizev N W R ∧ 24 ≤ linkp W R b := by
  have := wordv_lt h (linkp_eq h hb)
  have hR := h.2.2.2.2.1
  omega
theorem linkp_inj {N W R K : Int} (h : mayv N W R K) {b c : Int} (hb : 0 ≤ b ∧ b < N) (hc : 0 ≤ c ∧ c < N) (e : linkp W R b = linkp W R c) : b = c := by
  have h1 := wordv_lt h (linkp_eq h hb)
  have h2 := wordv_lt h (linkp_eq h hc)
  have hW := h.2.2.1
  exact (mul_apart (W := W) (v := 5) (w := 5) (by decide) (by omega) (by decide) (by omega) (b := b) (c := c) (by omega)).1
theorem link_set {N W R K : Int} (h : mayv N W R K) {l : List Int} (hl : l.length = sizev N W R) {b c v : Int} (hb : 0 ≤ b ∧ b < N) (hc : 0 ≤ c ∧ c < N) : link W R (l.set (linkp W R b) v) c = if b = c then v else link W R l c := by
  unfold link
  rw [rd_setN _ _ _ _ (by rw [hl]; exact (linkp_lt h hb).1)]
  by_cases e : b = c
  · rw [if_pos (by rw [e]), if_pos e]
  · rw [if_neg (fun q => e (linkp_inj h hb hc q)), if_neg e]
theorem reg_link {N W R K : Int} (h : mayv N W R K) {l : List Int} (hl : l.length = sizev N W R) {b v : Int} (hb : 0 ≤ b ∧ b < N) {i : Nat} (hi : i < 24) : rd (l.set (linkp W R b) v) (i : Int) = rd l (i : Int) := by
  rw [rd_setN _ _ _ _ (by rw [hl]; exact (linkp_lt h hb).1), if_neg (by have := (linkp_lt h hb).2; omega)]
theorem size24 {N W R K : Int} (h : mayv N W R K) : 24 ≤ sizev N W R := by
  have := size_cast h
  have := nw_small h.1 h.2.1 h.2.2.1 h.2.2.2.1
  have hR := h.2.2.2.2.1
  generalize N * W = q at *
  omega
theorem link_reg {N W R K : Int} (h : mayv N W R K) {l : List Int} (hl : l.length = sizev N W R) {c v : Int} (hc : 0 ≤ c ∧ c < N) {i : Nat} (hi : i < 24) : link W R (l.set i v) c = link W R l c := by
  unfold link
  rw [rd_setN _ _ _ _ (by have := size24 h; omega), if_neg (by have := (linkp_lt h hc).2; omega)]
theorem reg_reg {N W R K : Int} (h : mayv N W R K) {l : List Int} (hl : l.length = sizev N W R) {v : Int} {i j : Nat} (hi : i < 24) : rd (l.set i v) (j : Int) = if i = j then v else rd l (j : Int) := by
  rw [rd_setN _ _ _ _ (by have := size24 h; omega)]
/-- So many accesses at most. -/
def Acc (c : Nat) (m m' : Int) : Prop := ∃ d : Nat, d ≤ c ∧ IntKind.u64.wrap m' = IntKind.u64.wrap (m + (d : Int))
theorem wrapu (n : Int) : IntKind.u64.wrap n = n % 18446744073709551616 := by
  unfold IntKind.wrap; simp [IntKind.signed, IntKind.bits]
theorem Acc.refl (c : Nat) (m : Int) : Acc c m m := ⟨0, Nat.zero_le _, by simp⟩
theorem Acc.step {c : Nat} {m m' : Int} (h : Acc c m m') : Acc (c + 1) m (IntKind.u64.wrap (m' + 1)) := by
  obtain ⟨d, hd, e⟩ := h
  refine ⟨d + 1, by omega, ?_⟩
  rw [wrapu, wrapu] at e
  rw [wrapu, wrapu, wrapu]
  omega
theorem Acc.trans {c d : Nat} {m m' m'' : Int} (h : Acc c m m') (k : Acc d m' m'') : Acc (c + d) m m'' := by
  obtain ⟨a, ha, e⟩ := h
  obtain ⟨b, hb, f⟩ := k
  refine ⟨a + b, by omega, ?_⟩
  rw [wrapu, wrapu] at e f
  rw [wrapu, wrapu]
  omega
theorem Acc.mono {c d : Nat} {m m' : Int} (h : Acc c m m') (hcd : c ≤ d) : Acc d m m' := by
  obtain ⟨a, ha, e⟩ := h
  exact ⟨a, by omega, e⟩
theorem Acc.sub {c : Nat} {m m' : Int} (h : Acc c m m') (hc : c < 1000000) : IntKind.u64.wrap (m' - m) ≤ (c : Int) := by
  obtain ⟨a, ha, e⟩ := h
  rw [wrapu, wrapu] at e
  rw [wrapu]
  omega
/-- The place of a block's word. -/
def wp (W R b w : Int) : Nat := (24 + R + b * W + w).toNat
def word (W R : Int) (l : List Int) (b w : Int) : Int := rd l (wp W R b w : Int)
theorem wp_eq {N W R K : Int} (h : mayv N W R K) {b w : Int} (hb : 0 ≤ b ∧ b < N) (hw : 0 ≤ w ∧ w < W) : wordv N W R b w = some (wp W R b w) := by
  unfold wordv wp
  rw [if_pos ⟨hb, hw⟩]
theorem wp_lt {N W R K : Int} (h : mayv N W R K) {b w : Int} (hb : 0 ≤ b ∧ b < N) (hw : 0 ≤ w ∧ w < W) : wp W R b w < sizev N W R ∧ 24 ≤ wp W R b w := by
  have := wordv_lt h (wp_eq h hb hw)
  have hR := h.2.2.2.2.1
  omega
theorem wp_inj {N W R K : Int} (h : mayv N W R K) {b c v w : Int} (hb : 0 ≤ b ∧ b < N) (hc : 0 ≤ c ∧ c < N) (hv : 0 ≤ v ∧ v < W) (hw : 0 ≤ w ∧ w < W) (e : wp W R b v = wp W R c w) : b = c ∧ v = w := by
  have h1 := wordv_lt h (wp_eq h hb hv)
  have h2 := wordv_lt h (wp_eq h hc hw)
  exact mul_apart (W := W) hv.1 hv.2 hw.1 hw.2 (b := b) (c := c) (by omega)
theorem word_set {N W R K : Int} (h : mayv N W R K) {l : List Int} (hl : l.length = sizev N W R) {b c v w x : Int} (hb : 0 ≤ b ∧ b < N) (hc : 0 ≤ c ∧ c < N) (hv : 0 ≤ v ∧ v < W) (hw : 0 ≤ w ∧ w < W) : word W R (l.set (wp W R b v) x) c w = if b = c ∧ v = w then x else word W R l c w := by
  unfold word
  rw [rd_setN _ _ _ _ (by rw [hl]; exact (wp_lt h hb hv).1)]
  by_cases e : b = c ∧ v = w
  · rw [if_pos (by rw [e.1, e.2]), if_pos e]
  · rw [if_neg (fun q => e (wp_inj h hb hc hv hw q)), if_neg e]
theorem reg_word {N W R K : Int} (h : mayv N W R K) {l : List Int} (hl : l.length = sizev N W R) {b v x : Int} (hb : 0 ≤ b ∧ b < N) (hv : 0 ≤ v ∧ v < W) {i : Nat} (hi : i < 24) : rd (l.set (wp W R b v) x) (i : Int) = rd l (i : Int) := by
  rw [rd_setN _ _ _ _ (by rw [hl]; exact (wp_lt h hb hv).1), if_neg (by have := (wp_lt h hb hv).2; omega)]
theorem word_reg {N W R K : Int} (h : mayv N W R K) {l : List Int} (hl : l.length = sizev N W R) {c v x : Int} (hc : 0 ≤ c ∧ c < N) (hv : 0 ≤ v ∧ v < W) {i : Nat} (hi : i < 24) : word W R (l.set i x) c v = word W R l c v := by
  unfold word
  rw [rd_setN _ _ _ _ (by have := size24 h; omega), if_neg (by have := (wp_lt h hc hv).2; omega)]
theorem five {N W R K : Int} (h : mayv N W R K) : (0 : Int) ≤ 5 ∧ 5 < W := by have := h.2.2.1; omega
/-- What a chain's operations leave as it was. -/
structure Fram (N W R : Int) (r : Nat) (l l' : List Int) : Prop where
  regs : ∀ i : Nat, i < 24 → (i < r ∨ r + 2 < i) → rd l' (i : Int) = rd l (i : Int)
  words : ∀ b w : Int, 0 ≤ b ∧ b < N → 0 ≤ w ∧ w < W → w ≠ 5 → word W R l' b w = word W R l b w
theorem Fram.refl {N W R : Int} {r : Nat} (l : List Int) : Fram N W R r l l := ⟨fun _ _ _ => rfl, fun _ _ _ _ _ => rfl⟩
theorem Fram.reg {N W R K : Int} (h : mayv N W R K) {r i : Nat} {l m : List Int} (hl : m.length = sizev N W R) (hi : i < 24 ∧ r ≤ i ∧ i ≤ r + 2) {v : Int} (hf : Fram N W R r l m) : Fram N W R r l (m.set i v) :=
  ⟨fun j hj hd => by rw [reg_reg h hl hi.1, if_neg (by omega)]; exact hf.regs j hj hd, fun b w hb hw hn => by rw [word_reg h hl hb hw hi.1]; exact hf.words b w hb hw hn⟩
theorem Fram.link {N W R K : Int} (h : mayv N W R K) {r : Nat} {l m : List Int} (hl : m.length = sizev N W R) {b v : Int} (hb : 0 ≤ b ∧ b < N) (hf : Fram N W R r l m) : Fram N W R r l (m.set (linkp W R b) v) :=
  ⟨fun j hj hd => by rw [reg_link h hl hb hj]; exact hf.regs j hj hd, fun c w hc hw hn => by
    have := word_set h hl (x := v) hb hc (five h) hw
    rw [if_neg (fun q => hn q.2.symm)] at this
    exact this.trans (hf.words c w hc hw hn)⟩
/-- A word is set that is no link of a chain's block. -/
theorem link_word {N W R K : Int} (h : mayv N W R K) {l : List Int} (hl : l.length = sizev N W R) {b c v x : Int} (hb : 0 ≤ b ∧ b < N) (hc : 0 ≤ c ∧ c < N) (hv : 0 ≤ v ∧ v < W) : link W R (l.set (wp W R b v) x) c = if b = c ∧ v = 5 then x else link W R l c := word_set h hl hb hc hv (five h)
/-- The blocks hang together by their links. -/
def Linked (W R : Int) (l : List Int) : List Int → Prop
  | [] => True
  | [a] => link W R l a = 0
  | a :: b :: r => link W R l a = b + 1 ∧ Linked W R l (b :: r)
theorem Linked.same {W R : Int} {l l' : List Int} : ∀ {L : List Int}, (∀ x ∈ L, link W R l' x = link W R l x) → Linked W R l L → Linked W R l' L
  | [], _, _ => trivial
  | [a], h, hL => by
    show link W R l' a = 0
    rw [h a (by simp)]; exact hL
  | a :: b :: r, h, hL => ⟨by rw [h a (by simp)]; exact hL.1, Linked.same (L := b :: r) (fun x hx => h x (by simp at hx ⊢; right; exact hx)) hL.2⟩
theorem Linked.tail {W R : Int} {l : List Int} {a : Int} : ∀ {L : List Int}, Linked W R l (a :: L) → Linked W R l L
  | [], _ => trivial
  | _ :: _, h => h.2
def headv : List Int → Int
  | [] => 0
  | a :: _ => a + 1
def lastv : List Int → Int
  | [] => 0
  | [a] => a + 1
  | _ :: b :: r => lastv (b :: r)
theorem lastv_snoc (b : Int) : ∀ L : List Int, lastv (L ++ [b]) = b + 1
  | [] => rfl
  | [_] => rfl
  | _ :: c :: r => lastv_snoc b (c :: r)
/-- One more behind: the last one's link, and the new one's. -/
theorem Linked.snoc {W R : Int} {l l' : List Int} {b : Int} : ∀ {L : List Int}, L.Nodup → (∀ x ∈ L, x + 1 ≠ lastv L → link W R l' x = link W R l x) → (∀ x ∈ L, x + 1 = lastv L → link W R l' x = b + 1) → link W R l' b = 0 → Linked W R l L → Linked W R l' (L ++ [b])
  | [], _, _, _, hb, _ => hb
  | [a], _, _, h2, hb, _ => ⟨h2 a (by simp) rfl, hb⟩
  | a :: c :: r, hn, h1, h2, hb, hL => by
    have hne : a + 1 ≠ lastv (a :: c :: r) := by
      intro e
      have hm : ∀ (M : List Int) (d : Int), ∃ y ∈ (d :: M), y + 1 = lastv (d :: M) := by
        intro M
        induction M with
        | nil => intro d; exact ⟨d, by simp, rfl⟩
        | cons f M ih => intro d; obtain ⟨y, hy, he⟩ := ih f; exact ⟨y, by simp at hy ⊢; right; exact hy, he⟩
      obtain ⟨y, hy, he⟩ := hm r c
      have : y = a := by
        have e' : a + 1 = lastv (c :: r) := e
        omega
      subst this
      exact (List.nodup_cons.1 hn).1 hy
    refine ⟨by rw [h1 a (by simp) hne]; exact hL.1, ?_⟩
    exact Linked.snoc (L := c :: r) (List.nodup_cons.1 hn).2 (fun x hx hq => h1 x (by simp at hx ⊢; right; exact hx) hq) (fun x hx hq => h2 x (by simp at hx ⊢; right; exact hx) hq) hb hL.2
/-- A chain's blocks L stand so: its three registers (from r on) and the links. -/
structure Chain (N W R : Int) (l : List Int) (r : Nat) (L : List Int) : Prop where
  mem : ∀ x ∈ L, 0 ≤ x ∧ x < N
  nd : L.Nodup
  first : rd l (r : Int) = headv L
  last : rd l ((r + 1 : Nat) : Int) = lastv L
  count : rd l ((r + 2 : Nat) : Int) = (L.length : Int)
  links : Linked W R l L
theorem Chain.word {N W R K : Int} (h : mayv N W R K) {l : List Int} (hl : l.length = sizev N W R) {r : Nat} {L : List Int} (hr : r + 2 < 24) {b w : Int} (hb : 0 ≤ b ∧ b < N) (hw : 0 ≤ w ∧ w < W) (hn : w ≠ 5 ∨ b ∉ L) (v : Int) (hc : Chain N W R l r L) : Chain N W R (l.set (wp W R b w) v) r L :=
  ⟨hc.mem, hc.nd, by rw [reg_word h hl hb hw (by omega)]; exact hc.first, by rw [reg_word h hl hb hw (by omega)]; exact hc.last, by rw [reg_word h hl hb hw (by omega)]; exact hc.count,
   hc.links.same fun x hx => by rw [link_word h hl hb (hc.mem x hx) hw, if_neg (fun e => by rcases hn with hn | hn; exact hn e.2; exact hn (by rw [e.1]; exact hx))]⟩
def chainAt (k : Int) (r : Nat) : Prop := k = 0 ∧ r = 0 ∨ k = 1 ∧ r = 3
theorem of_at (l : List Int) (m N W R K : Int) {k : Int} {r : Nat} (h : chainAt k r) : chain_of.f l m N W R K k = some ((r : Int), ((r + 1 : Nat) : Int), ((r + 2 : Nat) : Int), true) := by
  unfold chain_of.f
  rcases h with ⟨rfl, rfl⟩ | ⟨rfl, rfl⟩
  · rw [if_neg (by decide), if_neg (by decide), wrap64_id (n := 3 * 0) (by decide) (by decide), wrap64_id (n := 3 * 0 + 1) (by decide) (by decide), wrap64_id (n := 3 * 0 + 2) (by decide) (by decide)]; rfl
  · rw [if_neg (by decide), if_neg (by decide), wrap64_id (n := 3 * 1) (by decide) (by decide), wrap64_id (n := 3 * 1 + 1) (by decide) (by decide), wrap64_id (n := 3 * 1 + 2) (by decide) (by decide)]; rfl
theorem regv_nat {i : Nat} (h : i < 24) : regv (i : Int) = some i := by
  unfold regv; rw [if_pos (by omega)]; simp
theorem Reg_at {N W R K : Int} {l : List Int} (h : OK N W R K l) (m : Int) {i : Nat} (hi : i < 24) : ground_Ground_Reg.f l m N W R K (i : Int) = some (rd l (i : Int), IntKind.u64.wrap (m + 1)) := by
  rw [Reg_eq h, regv_nat hi]; rfl
theorem SetReg_at {N W R K : Int} {l : List Int} (h : OK N W R K l) (m : Int) {i : Nat} (hi : i < 24) (v : Int) (hv : 0 ≤ v ∧ v < 4294967296) : ground_Ground_SetReg.f l m N W R K (i : Int) v = some (true, IntKind.u64.wrap (m + 1), l.set i v) := by
  rw [SetReg_eq h, if_pos hv, regv_nat hi]; rfl
theorem SetLink_at {N W R K : Int} {l : List Int} (h : OK N W R K l) (m : Int) {b : Int} (hb : 0 ≤ b ∧ b < N) (v : Int) : ground_Ground_SetWord.f l m N W R K b 5 v = some (true, IntKind.u64.wrap (m + 1), l.set (linkp W R b) v) := by
  rw [SetWord_eq h, linkp_eq h.may hb]; rfl
theorem Link_at {N W R K : Int} {l : List Int} (h : OK N W R K l) (m : Int) {b : Int} (hb : 0 ≤ b ∧ b < N) : ground_Ground_Word.f l m N W R K b 5 = some (link W R l b, IntKind.u64.wrap (m + 1)) := by
  rw [Word_eq h, linkp_eq h.may hb]; rfl
theorem lastv_mem : ∀ {L : List Int}, L ≠ [] → ∃ y ∈ L, lastv L = y + 1
  | [], h => absurd rfl h
  | [a], _ => ⟨a, by simp, rfl⟩
  | _ :: c :: r, _ => by
    obtain ⟨y, hy, he⟩ := lastv_mem (L := c :: r) (by simp)
    exact ⟨y, by simp at hy ⊢; right; exact hy, he⟩
/-- A chain that is not touched: other registers are set, other blocks' links. -/
theorem Chain.reg {N W R K : Int} (h : mayv N W R K) {l : List Int} (hl : l.length = sizev N W R) {r i : Nat} {L : List Int} (hi : i < 24) (hr : r + 2 < 24) (hd : i < r ∨ r + 2 < i) (v : Int) (hc : Chain N W R l r L) : Chain N W R (l.set i v) r L :=
  ⟨hc.mem, hc.nd, by rw [reg_reg h hl hi, if_neg (by omega)]; exact hc.first, by rw [reg_reg h hl hi, if_neg (by omega)]; exact hc.last, by rw [reg_reg h hl hi, if_neg (by omega)]; exact hc.count,
   hc.links.same fun x hx => link_reg h hl (hc.mem x hx) hi⟩
theorem Chain.link {N W R K : Int} (h : mayv N W R K) {l : List Int} (hl : l.length = sizev N W R) {r : Nat} {L : List Int} (hr : r + 2 < 24) {b : Int} (hb : 0 ≤ b ∧ b < N) (hn : b ∉ L) (v : Int) (hc : Chain N W R l r L) : Chain N W R (l.set (linkp W R b) v) r L :=
  ⟨hc.mem, hc.nd, by rw [reg_link h hl hb (by omega)]; exact hc.first, by rw [reg_link h hl hb (by omega)]; exact hc.last, by rw [reg_link h hl hb (by omega)]; exact hc.count,
   hc.links.same fun x hx => by rw [link_set h hl hb (hc.mem x hx), if_neg (fun e => hn (by rw [e]; exact hx))]⟩
/-- What is added stands behind; the other chain stays as it is. -/
theorem add_chain {N W R K : Int} {l : List Int} (h : OK N W R K l) (m : Int) {k : Int} {r q : Nat} {L M : List Int} (hk : chainAt k r) (hq : q + 2 < 24 ∧ (q + 2 < r ∨ r + 2 < q)) (hL : Chain N W R l r L) (hM : Chain N W R l q M)
    {b : Int} (hb : 0 ≤ b ∧ b < N) (hbL : b ∉ L) (hbM : b ∉ M) (hML : ∀ x ∈ L, x ∉ M) (hlen : L.length < 1000000) :
    ∃ m' l', chain_Add.f l m N W R K k b = some (true, m', l') ∧ OK N W R K l' ∧ Chain N W R l' r (L ++ [b]) ∧ Chain N W R l' q M ∧ Acc 16 m m' ∧ Fram N W R r l l' := by
  have hN := h.may.2.1
  have hr : r + 2 < 24 := by rcases hk with ⟨_, rfl⟩ | ⟨_, rfl⟩ <;> decide
  have hwb : wrap64 (b + 1) = b + 1 := wrap64_id (by omega) (by omega)
  have h1 := h.set (linkp W R b) 0 (by decide) (by decide)
  unfold chain_Add.f chain_put_F143.f
  rw [of_at _ _ _ _ _ _ hk]
  simp only [Option.bind_some, if_true, ground_Ground_Conf.f]
  rw [if_neg (by omega), if_neg (by omega), Reg_at h m (by omega), hL.count]
  simp only [Option.bind_some]
  have hcnt : wrap64 ((L.length : Int) + 1) = ((L.length + 1 : Nat) : Int) := by rw [wrap64_id (by omega) (by omega)]; omega
  unfold chain_Add_1.f
  rw [SetLink_at h _ hb]
  simp only [Option.bind_some]
  by_cases hz : (L.length : Int) = 0
  · have hnil : L = [] := List.eq_nil_of_length_eq_zero (by omega)
    subst hnil
    rw [if_pos hz, hwb, SetReg_at h1 _ (i := r) (by omega) (b + 1) (by omega)]
    simp only [Option.bind_some]
    have h2 := h1.set r (b + 1) (by omega) (by omega)
    rw [SetReg_at h2 _ (i := r + 1) (by omega) (b + 1) (by omega)]
    simp only [Option.bind_some]
    have h3 := h2.set (r + 1) (b + 1) (by omega) (by omega)
    rw [hcnt, SetReg_at h3 _ (i := r + 2) (by omega) _ (by omega)]
    refine ⟨_, _, rfl, h3.set _ _ (by omega) (by omega), ⟨by simpa using hb, by simp, ?_, ?_, ?_, ?_⟩, ?_, by repeat (first | with_reducible refine Acc.step ?_ | exact Acc.refl _ _), by repeat (first | exact Fram.refl _ | with_reducible refine Fram.link h.may (by first | exact h.len | (simp only [List.length_set]; exact h.len)) (by first | exact hb | exact hL.mem _ (by assumption)) ?_ | refine Fram.reg h.may (by first | exact h.len | (simp only [List.length_set]; exact h.len)) (by omega) ?_)⟩
    · rw [reg_reg h.may h3.len (by omega), if_neg (by omega), reg_reg h.may h2.len (by omega), if_neg (by omega), reg_reg h.may h1.len (by omega), if_pos rfl]; rfl
    · rw [reg_reg h.may h3.len (by omega), if_neg (by omega), reg_reg h.may h2.len (by omega), if_pos rfl]; rfl
    · rw [reg_reg h.may h3.len (by omega), if_pos rfl]; rfl
    · show link W R _ b = 0
      rw [link_reg h.may h3.len hb (by omega), link_reg h.may h2.len hb (by omega), link_reg h.may h1.len hb (by omega), link_set h.may h.len hb hb, if_pos rfl]
    · exact (((hM.link h.may h.len hq.1 hb hbM 0).reg h.may h1.len (by omega) hq.1 (by omega) _).reg h.may h2.len (by omega) hq.1 (by omega) _).reg h.may h3.len (by omega) hq.1 (by omega) _
  · have hne : L ≠ [] := fun e => hz (by rw [e]; rfl)
    obtain ⟨e, he, hle⟩ := lastv_mem hne
    have heN := hL.mem e he
    have hwe : wrap64 (e + 1 - 1) = e := by rw [wrap64_id (by omega) (by omega)]; omega
    rw [if_neg hz, Reg_at h1 _ (i := r + 1) (by omega), reg_link h.may h.len hb (by omega), hL.last, hle]
    simp only [Option.bind_some]
    rw [hwe, hwb, show (b + 1) % 4294967296 = b + 1 by omega, SetLink_at h1 _ heN]
    simp only [Option.bind_some]
    have h2 := h1.set (linkp W R e) (b + 1) (by omega) (by omega)
    rw [SetReg_at h2 _ (i := r + 1) (by omega) (b + 1) (by omega)]
    simp only [Option.bind_some]
    have h3 := h2.set (r + 1) (b + 1) (by omega) (by omega)
    rw [hcnt, SetReg_at h3 _ (i := r + 2) (by omega) _ (by omega)]
    have hbe : b ≠ e := fun q => hbL (by rw [q]; exact he)
    refine ⟨_, _, rfl, h3.set _ _ (by omega) (by omega), ⟨?_, ?_, ?_, ?_, ?_, ?_⟩, ?_, by repeat (first | with_reducible refine Acc.step ?_ | exact Acc.refl _ _), by repeat (first | exact Fram.refl _ | with_reducible refine Fram.link h.may (by first | exact h.len | (simp only [List.length_set]; exact h.len)) (by first | exact hb | exact hL.mem _ (by assumption)) ?_ | refine Fram.reg h.may (by first | exact h.len | (simp only [List.length_set]; exact h.len)) (by omega) ?_)⟩
    · intro x hx
      rcases List.mem_append.1 hx with hx | hx
      · exact hL.mem x hx
      · simp at hx; subst hx; exact hb
    · exact List.nodup_append.2 ⟨hL.nd, by simp, fun x hx y hy => by simp at hy; subst hy; exact fun q => hbL (by rw [← q]; exact hx)⟩
    · rw [reg_reg h.may h3.len (by omega), if_neg (by omega), reg_reg h.may h2.len (by omega), if_neg (by omega), reg_link h.may h1.len heN (by omega), reg_link h.may h.len hb (by omega), hL.first]
      cases L with
      | nil => exact absurd rfl hne
      | cons a t => rfl
    · rw [reg_reg h.may h3.len (by omega), if_neg (by omega), reg_reg h.may h2.len (by omega), if_pos rfl, lastv_snoc]
    · rw [reg_reg h.may h3.len (by omega), if_pos rfl]; simp
    · have lk : ∀ x, 0 ≤ x ∧ x < N → link W R ((((l.set (linkp W R b) 0).set (linkp W R e) (b + 1)).set (r + 1) (b + 1)).set (r + 2) ((L.length + 1 : Nat) : Int)) x = if e = x then b + 1 else if b = x then 0 else link W R l x := by
        intro x hx
        rw [link_reg h.may h3.len hx (by omega), link_reg h.may h2.len hx (by omega), link_set h.may h1.len heN hx, link_set h.may h.len hb hx]
      refine Linked.snoc (l := l) hL.nd (fun x hx hq => ?_) (fun x hx hq => ?_) ?_ hL.links
      · rw [lk x (hL.mem x hx), if_neg (by omega), if_neg (fun q => hbL (by rw [q]; exact hx))]
      · rw [lk x (hL.mem x hx), if_pos (by omega)]
      · rw [lk b hb, if_neg (fun q => hbe q.symm), if_pos rfl]
    · exact ((((hM.link h.may h.len hq.1 hb hbM 0).link h.may h1.len hq.1 heN (hML e he) _).reg h.may h2.len (by omega) hq.1 (by omega) _).reg h.may h3.len (by omega) hq.1 (by omega) _)
theorem Linked.head {W R : Int} {l : List Int} {a : Int} : ∀ {t : List Int}, Linked W R l (a :: t) → link W R l a = headv t
  | [], h => h
  | _ :: _, h => h.1
theorem headv_range {N : Int} : ∀ {t : List Int}, (∀ x ∈ t, 0 ≤ x ∧ x < N) → N ≤ 1048576 → 0 ≤ headv t ∧ headv t < 4294967296
  | [], _, _ => by decide
  | a :: t, h, hN => by have := h a (by simp); show 0 ≤ a + 1 ∧ a + 1 < 4294967296; omega
theorem headv_zero {N : Int} : ∀ {t : List Int}, (∀ x ∈ t, 0 ≤ x ∧ x < N) → headv t = 0 → t = []
  | [], _, _ => rfl
  | a :: t, h, e => by have := h a (by simp); have e' : a + 1 = 0 := e; omega
/-- The first one is taken. -/
theorem take_chain {N W R K : Int} {l : List Int} (h : OK N W R K l) (m : Int) {k : Int} {r q : Nat} {a : Int} {L M : List Int} (hk : chainAt k r) (hq : q + 2 < 24 ∧ (q + 2 < r ∨ r + 2 < q)) (hL : Chain N W R l r (a :: L)) (hM : Chain N W R l q M)
    (haM : a ∉ M) (hlen : L.length < 1000000) :
    ∃ m' l', chain_Take.f l m N W R K k = some (a, true, m', l') ∧ OK N W R K l' ∧ Chain N W R l' r L ∧ Chain N W R l' q M ∧ Acc 16 m m' ∧ Fram N W R r l l' ∧ link W R l' a = 0 := by
  have hN := h.may.2.1
  have hr : r + 2 < 24 := by rcases hk with ⟨_, rfl⟩ | ⟨_, rfl⟩ <;> decide
  have ha := hL.mem a (by simp)
  have hmem : ∀ x ∈ L, 0 ≤ x ∧ x < N := fun x hx => hL.mem x (by simp [hx])
  have hnd := List.nodup_cons.1 hL.nd
  have hh := headv_range hmem hN
  have hwa : wrap64 (a + 1 - 1) = a := by rw [wrap64_id (by omega) (by omega)]; omega
  have hc := hL.count
  have hcnt : wrap64 ((((a :: L).length : Nat) : Int) - 1) = (L.length : Int) := by rw [List.length_cons, wrap64_id (by omega) (by omega)]; omega
  unfold chain_Take.f
  rw [of_at _ _ _ _ _ _ hk]
  simp only [Option.bind_some, if_true]
  rw [Reg_at h m (i := r) (by omega), hL.first]
  simp only [Option.bind_some, headv]
  rw [if_neg (by omega), hwa, Link_at h _ ha, hL.links.head]
  simp only [Option.bind_some]
  rw [SetLink_at h _ ha]
  simp only [Option.bind_some]
  have h1 := h.set (linkp W R a) 0 (by decide) (by decide)
  rw [wrap64_id (n := headv L) (by omega) (by omega), SetReg_at h1 _ (i := r) (by omega) _ hh]
  simp only [Option.bind_some]
  have h2 := h1.set r (headv L) hh.1 hh.2
  have lks : ∀ {l' : List Int}, (∀ x, 0 ≤ x ∧ x < N → link W R l' x = if a = x then 0 else link W R l x) → Linked W R l' L := by
    intro l' lk
    exact hL.links.tail.same fun x hx => by rw [lk x (hmem x hx), if_neg (fun e => hnd.1 (by rw [e]; exact hx))]
  by_cases hz : headv L = 0
  · have hnil := headv_zero hmem hz
    rw [if_pos hz, SetReg_at h2 _ (i := r + 1) (by omega) 0 (by decide)]
    simp only [Option.bind_some]
    have h3 := h2.set (r + 1) 0 (by decide) (by decide)
    rw [Reg_at h3 _ (i := r + 2) (by omega), reg_reg h.may h2.len (by omega), if_neg (by omega), reg_reg h.may h1.len (by omega), if_neg (by omega), reg_link h.may h.len ha (by omega), hc]
    simp only [Option.bind_some]
    rw [hcnt, SetReg_at h3 _ (i := r + 2) (by omega) _ (by omega)]
    refine ⟨_, _, rfl, h3.set _ _ (by omega) (by omega), ⟨hmem, hnd.2, ?_, ?_, ?_, lks fun x hx => ?_⟩, ?_, by repeat (first | with_reducible refine Acc.step ?_ | exact Acc.refl _ _), by repeat (first | exact Fram.refl _ | with_reducible refine Fram.link h.may (by first | exact h.len | (simp only [List.length_set]; exact h.len)) (by first | exact ha) ?_ | refine Fram.reg h.may (by first | exact h.len | (simp only [List.length_set]; exact h.len)) (by omega) ?_), by rw [link_reg h.may h3.len ha (by omega), link_reg h.may h2.len ha (by omega), link_reg h.may h1.len ha (by omega), link_set h.may h.len ha ha, if_pos rfl]⟩
    · rw [reg_reg h.may h3.len (by omega), if_neg (by omega), reg_reg h.may h2.len (by omega), if_neg (by omega), reg_reg h.may h1.len (by omega), if_pos rfl]
    · rw [reg_reg h.may h3.len (by omega), if_neg (by omega), reg_reg h.may h2.len (by omega), if_pos rfl, hnil]; rfl
    · rw [reg_reg h.may h3.len (by omega), if_pos rfl]
    · rw [link_reg h.may h3.len hx (by omega), link_reg h.may h2.len hx (by omega), link_reg h.may h1.len hx (by omega), link_set h.may h.len ha hx]
    · exact (((hM.link h.may h.len hq.1 ha haM _).reg h.may h1.len (by omega) hq.1 (by omega) _).reg h.may h2.len (by omega) hq.1 (by omega) _).reg h.may h3.len (by omega) hq.1 (by omega) _
  · have hne : L ≠ [] := fun e => hz (by rw [e]; rfl)
    rw [if_neg hz, Reg_at h2 _ (i := r + 2) (by omega), reg_reg h.may h1.len (by omega), if_neg (by omega), reg_link h.may h.len ha (by omega), hc]
    simp only [Option.bind_some]
    rw [hcnt, SetReg_at h2 _ (i := r + 2) (by omega) _ (by omega)]
    refine ⟨_, _, rfl, h2.set _ _ (by omega) (by omega), ⟨hmem, hnd.2, ?_, ?_, ?_, lks fun x hx => ?_⟩, ?_, by repeat (first | with_reducible refine Acc.step ?_ | exact Acc.refl _ _), by repeat (first | exact Fram.refl _ | with_reducible refine Fram.link h.may (by first | exact h.len | (simp only [List.length_set]; exact h.len)) (by first | exact ha) ?_ | refine Fram.reg h.may (by first | exact h.len | (simp only [List.length_set]; exact h.len)) (by omega) ?_), by rw [link_reg h.may h2.len ha (by omega), link_reg h.may h1.len ha (by omega), link_set h.may h.len ha ha, if_pos rfl]⟩
    · rw [reg_reg h.may h2.len (by omega), if_neg (by omega), reg_reg h.may h1.len (by omega), if_pos rfl]
    · rw [reg_reg h.may h2.len (by omega), if_neg (by omega), reg_reg h.may h1.len (by omega), if_neg (by omega), reg_link h.may h.len ha (by omega), hL.last]
      cases L with
      | nil => exact absurd rfl hne
      | cons c t => rfl
    · rw [reg_reg h.may h2.len (by omega), if_pos rfl]
    · rw [link_reg h.may h2.len hx (by omega), link_reg h.may h1.len hx (by omega), link_set h.may h.len ha hx]
    · exact ((hM.link h.may h.len hq.1 ha haM _).reg h.may h1.len (by omega) hq.1 (by omega) _).reg h.may h2.len (by omega) hq.1 (by omega) _
theorem take_none {N W R K : Int} {l : List Int} (h : OK N W R K l) (m : Int) {k : Int} {r : Nat} (hk : chainAt k r) (hL : Chain N W R l r []) : ∃ m', chain_Take.f l m N W R K k = some (0, false, m', l) := by
  have hr : r + 2 < 24 := by rcases hk with ⟨_, rfl⟩ | ⟨_, rfl⟩ <;> decide
  refine ⟨IntKind.u64.wrap (m + 1), ?_⟩
  unfold chain_Take.f
  rw [of_at _ _ _ _ _ _ hk]
  simp only [Option.bind_some, if_true]
  rw [Reg_at h m (i := r) (by omega), hL.first]
  simp only [Option.bind_some, headv, if_true]
theorem len_chain {N W R K : Int} {l : List Int} (h : OK N W R K l) (m : Int) {k : Int} {r : Nat} {L : List Int} (hk : chainAt k r) (hL : Chain N W R l r L) : chain_Len.f l m N W R K k = some ((L.length : Int), IntKind.u64.wrap (m + 1)) := by
  have hr : r + 2 < 24 := by rcases hk with ⟨_, rfl⟩ | ⟨_, rfl⟩ <;> decide
  unfold chain_Len.f
  rw [of_at _ _ _ _ _ _ hk]
  simp only [Option.bind_some, if_true]
  rw [Reg_at h m (i := r + 2) (by omega), hL.count]
  rfl
theorem chain_empty {N W R K : Int} (h : mayv N W R K) {r : Nat} : Chain N W R (List.replicate (sizev N W R) 0) r [] := by
  have hz : ∀ i : Int, rd (List.replicate (sizev N W R) (0 : Int)) i = 0 := fun i => by
    simp only [rd, List.getD_eq_getElem?_getD, List.getElem?_replicate]
    split <;> rfl
  exact ⟨by simp, by simp, hz _, hz _, hz _, trivial⟩
def peekv (l : List Int) (p : Option Nat) : Int := match p with
  | some n => rd l (n : Int)
  | none => 0
theorem speek_eq (l : List Int) (m : Int) (p : Option Nat) (hp : ∀ n, p = some n → n < l.length) : store_Store_Peek.f l m (posv p) = some (peekv l p) := by
  rw [peek_eq]
  cases p with
  | none => rw [if_neg (by simp [posv])]; rfl
  | some n => have := hp n rfl; rw [if_pos (by simp [posv]; omega)]; rfl
theorem SeeLink_at {N W R K : Int} {l : List Int} (h : OK N W R K l) (m : Int) {b : Int} (hb : 0 ≤ b ∧ b < N) : ground_Ground_SeeWord.f l m N W R K b 5 = some (link W R l b) := by
  unfold ground_Ground_SeeWord.f ground_Ground_all.f
  simp only [Option.bind_some]
  rw [word_eq l m N W R K b 5 h.may, linkp_eq h.may hb]
  simp only [Option.bind_some]
  rw [speek_eq l m _ (fun n hn => by rw [h.len]; cases hn; exact (linkp_lt h.may hb).1)]
  rfl
/-- The numbers from p to below b. -/
def iv (p b : Nat) : List Int := (List.range' p (b - p)).map (fun i : Nat => (i : Int))
theorem iv_mem {p b : Nat} {x : Int} (h : x ∈ iv p b) : (p : Int) ≤ x ∧ x < (b : Int) := by
  unfold iv at h
  obtain ⟨i, hi, rfl⟩ := List.mem_map.1 h
  have := List.mem_range'_1.1 hi
  omega
theorem iv_len (p b : Nat) : (iv p b).length = b - p := by simp [iv]
theorem iv_self (p : Nat) : iv p p = [] := by simp [iv]
theorem iv_snoc {p b : Nat} (h : p ≤ b) : iv p (b + 1) = iv p b ++ [(b : Int)] := by
  unfold iv
  rw [show b + 1 - p = (b - p) + 1 by omega, List.range'_concat, List.map_append]
  simp; omega
theorem iv_cons {b n : Nat} (h : b < n) : iv b n = (b : Int) :: iv (b + 1) n := by
  unfold iv
  rw [show n - b = (n - (b + 1)) + 1 by omega, List.range'_succ]
  rfl
theorem bind_is {α β : Type} {x : Option α} {a : α} (h : x = some a) (f : α → Option β) : x.bind f = f a := by rw [h]; rfl
theorem SetWord_at {N W R K : Int} {l : List Int} (h : OK N W R K l) (m : Int) {b w : Int} (hb : 0 ≤ b ∧ b < N) (hw : 0 ≤ w ∧ w < W) (v : Int) : ground_Ground_SetWord.f l m N W R K b w v = some (true, IntKind.u64.wrap (m + 1), l.set (wp W R b w) v) := by
  rw [SetWord_eq h, wp_eq h.may hb hw]; rfl
theorem Word_at {N W R K : Int} {l : List Int} (h : OK N W R K l) (m : Int) {b w : Int} (hb : 0 ≤ b ∧ b < N) (hw : 0 ≤ w ∧ w < W) : ground_Ground_Word.f l m N W R K b w = some (word W R l b w, IntKind.u64.wrap (m + 1)) := by
  rw [Word_eq h, wp_eq h.may hb hw]; rfl
/-- A chain stands as it stood, if its registers and links do. -/
theorem Chain.same_ {N W R : Int} {l l' : List Int} {r : Nat} {L : List Int} (hr : ∀ i : Nat, r ≤ i → i ≤ r + 2 → rd l' (i : Int) = rd l (i : Int)) (hk : ∀ x ∈ L, V.link W R l' x = V.link W R l x) (hc : Chain N W R l r L) : Chain N W R l' r L :=
  ⟨hc.mem, hc.nd, by rw [hr _ (by omega) (by omega)]; exact hc.first, by rw [hr _ (by omega) (by omega)]; exact hc.last, by rw [hr _ (by omega) (by omega)]; exact hc.count, hc.links.same hk⟩
/-- A block's first j words are wiped. -/
structure Wip (N W R K b j : Int) (l l' : List Int) : Prop where
  ok : OK N W R K l'
  regs : ∀ i : Nat, i < 24 → rd l' (i : Int) = rd l (i : Int)
  words : ∀ c w : Int, 0 ≤ c ∧ c < N → 0 ≤ w ∧ w < W → word W R l' c w = if c = b ∧ w < j then 0 else word W R l c w
theorem Wip.none {N W R K b : Int} {l : List Int} (h : OK N W R K l) : Wip N W R K b 0 l l := ⟨h, fun _ _ => rfl, fun c w _ hw => by rw [if_neg (by omega)]⟩
theorem Wip.step {N W R K b j : Int} {l l' : List Int} (hb : 0 ≤ b ∧ b < N) (hj : 0 ≤ j ∧ j < W) (h : Wip N W R K b j l l') : Wip N W R K b (j + 1) l (l'.set (wp W R b j) 0) := by
  refine ⟨h.ok.set _ 0 (by decide) (by decide), fun i hi => by rw [reg_word h.ok.may h.ok.len hb hj hi]; exact h.regs i hi, fun c w hc hw => ?_⟩
  rw [word_set h.ok.may h.ok.len hb hc hj hw, h.words c w hc hw]
  by_cases e : b = c ∧ j = w
  · rw [if_pos e, if_pos (by omega)]
  · rw [if_neg e]
    by_cases f : c = b ∧ w < j
    · rw [if_pos f, if_pos (by omega)]
    · rw [if_neg f, if_neg (by omega)]
theorem Wip.chain {N W R K b j : Int} {l l' : List Int} (h : Wip N W R K b j l l') {r : Nat} (hr : r + 2 < 24) {L : List Int} (hn : b ∉ L) (hc : Chain N W R l r L) : Chain N W R l' r L :=
  hc.same_ (fun i h1 h2 => h.regs i (by omega)) (fun x hx => by
    have := h.words x 5 (hc.mem x hx) (five h.ok.may)
    rw [if_neg (fun q => hn (by rw [← q.1]; exact hx))] at this
    exact this)
theorem wipe_lo {N W R K b : Int} (hb : 0 ≤ b ∧ b < N) (l0 : List Int) : ∀ (d k j : Nat) (n : Int) (l : List Int) (m : Int), Wip N W R K b (j : Int) l0 l → j + d = W.toNat → d < k → n + d < 100000 → 0 ≤ n →
    ∃ n' l' m', ground_Ground_Wipe.lo0 k N W R K b (N, W, R, K) n (j : Int) l m = some (n', l', m') ∧ Wip N W R K b W l0 l' ∧ Acc d m m' := by
  intro d
  induction d with
  | zero =>
    intro k j n l m h hj hk hn hn0
    have hW := h.ok.may.2.2.1
    obtain ⟨k, rfl⟩ : ∃ q, k = q + 1 := ⟨k - 1, by omega⟩
    refine ⟨n, l, m, ?_, ?_, Acc.refl _ _⟩
    · rw [ground_Ground_Wipe.lo0, if_neg (by show ¬ (j : Int) < W; omega)]
    · have : (j : Int) = W := by omega
      rw [this] at h; exact h
  | succ d ih =>
    intro k j n l m h hj hk hn hn0
    have hW := h.ok.may.2.2.1
    have hW2 := h.ok.may.2.2.2.1
    obtain ⟨k, rfl⟩ : ∃ q, k = q + 1 := ⟨k - 1, by omega⟩
    have hs := h.step hb (by omega)
    rw [show (j : Int) + 1 = ((j + 1 : Nat) : Int) by omega] at hs
    obtain ⟨n', l', m', e, hw, ha⟩ := ih k (j + 1) (n + 1) _ (IntKind.u64.wrap (m + 1)) hs (by omega) (by omega) (by omega) (by omega)
    refine ⟨n', l', m', ?_, hw, (show Acc (1 + d) m m' from ((Acc.refl 0 m).step).trans ha).mono (by omega)⟩
    rw [ground_Ground_Wipe.lo0, if_pos (by show (j : Int) < W; omega), SetWord_at h.ok m hb (by omega)]
    simp only [Option.bind_some, if_true]
    rw [wrap64_id (n := n + 1) (by omega) (by omega), next_i j (by omega)]
    exact e
theorem wipe_at {N W R K b : Int} {l : List Int} (h : OK N W R K l) (m : Int) (hb : 0 ≤ b ∧ b < N) (k : Nat) (hk : 300 ≤ k) : ∃ n' m' l', ground_Ground_Wipe.f k l m N W R K b = some (n', m', l') ∧ Wip N W R K b W l l' ∧ Acc W.toNat m m' := by
  have hW := h.may.2.2.2.1
  obtain ⟨n', l', m', e, hw, ha⟩ := wipe_lo hb l W.toNat k 0 0 l m (Wip.none h) (by omega) (by omega) (by omega) (by omega)
  refine ⟨n', m', l', ?_, hw, ha⟩
  unfold ground_Ground_Wipe.f ground_Ground_Conf.f
  simp only [Option.bind_some]
  have e' : ground_Ground_Wipe.lo0 k N W R K b (N, W, R, K) 0 0 l m = some (n', l', m') := e
  rw [e']
  rfl
theorem opens {N W R K : Int} {n : Nat} (hn : N = (n : Int)) (hs : n < 900000) : ∀ (d k b : Nat) (l : List Int) (m : Int), b + d = n → d < k → OK N W R K l → Chain N W R l 0 (iv 0 b) → Chain N W R l 3 [] →
    ∃ l' m', pool_Open.lo0 k N W R K (N, W, R, K) (b : Int) l m = some (l', m') ∧ OK N W R K l' ∧ Chain N W R l' 0 (iv 0 n) ∧ Chain N W R l' 3 [] ∧ Fram N W R 0 l l' := by
  intro d
  induction d with
  | zero =>
    intro k b l m hb hk hO hL hM
    obtain ⟨k, rfl⟩ : ∃ q, k = q + 1 := ⟨k - 1, by omega⟩
    obtain rfl : b = n := by omega
    refine ⟨l, m, ?_, hO, hL, hM, Fram.refl _⟩
    rw [pool_Open.lo0, if_neg (by show ¬ (b : Int) < N; omega)]
  | succ d ih =>
    intro k b l m hb hk hO hL hM
    obtain ⟨k, rfl⟩ : ∃ q, k = q + 1 := ⟨k - 1, by omega⟩
    obtain ⟨m1, l1, e, hO1, hL1, hM1, _, hF⟩ := add_chain hO m (k := 0) (r := 0) (q := 3) (Or.inl ⟨rfl, rfl⟩) (by decide) hL hM (b := (b : Int)) (by omega) (fun h => by have := iv_mem h; omega) (by simp) (by simp) (by rw [iv_len]; omega)
    rw [← iv_snoc (by omega)] at hL1
    obtain ⟨l2, m2, e2, hO2, hL2, hM2, hF2⟩ := ih k (b + 1) l1 m1 (by omega) (by omega) hO1 hL1 hM1
    refine ⟨l2, m2, ?_, hO2, hL2, hM2, ⟨fun i h1 h2 => (hF2.regs i h1 h2).trans (hF.regs i h1 h2), fun c w h1 h2 h3 => (hF2.words c w h1 h2 h3).trans (hF.words c w h1 h2 h3)⟩⟩
    rw [pool_Open.lo0, if_pos (by show (b : Int) < N; omega)]
    refine Eq.trans (bind_is e _) ?_
    rw [next_i b (by omega)]
    exact e2
theorem open_pool {N W R K : Int} {n : Nat} (hn : N = (n : Int)) (hs : n < 900000) {l : List Int} (h : OK N W R K l) (hL : Chain N W R l 0 []) (hM : Chain N W R l 3 []) (m : Int) (k : Nat) (hk : n < k) :
    ∃ m' l', pool_Open.f k l m N W R K = some (true, m', l') ∧ OK N W R K l' ∧ Chain N W R l' 0 (iv 0 n) ∧ Chain N W R l' 3 [] ∧ Fram N W R 0 l l' := by
  obtain ⟨l', m', e, hr⟩ := opens hn hs n k 0 l (IntKind.u64.wrap (m + 1)) (by omega) hk h (by rw [iv_self]; exact hL) hM
  refine ⟨m', l', ?_, hr⟩
  unfold pool_Open.f
  refine Eq.trans (bind_is (len_chain h m (Or.inl ⟨rfl, rfl⟩) hL) _) ?_
  show (if ((([] : List Int).length : Nat) : Int) > 0 then _ else _) = _
  rw [if_neg (by decide)]
  refine Eq.trans (bind_is (show ground_Ground_Conf.f l (IntKind.u64.wrap (m + 1)) N W R K = some (N, W, R, K) from rfl) _) ?_
  exact bind_is e _
/-- The first clean block is taken, and wiped. -/
theorem pool_take {N W R K : Int} {l : List Int} (h : OK N W R K l) (m : Int) {a : Int} {L : List Int} (hL : Chain N W R l 0 (a :: L)) (hM : Chain N W R l 3 []) (hlen : L.length < 1000000) (k : Nat) (hk : 300 ≤ k) :
    ∃ m' l', pool_Take.f k l m N W R K = some (a, true, m', l') ∧ OK N W R K l' ∧ Chain N W R l' 0 L ∧ Chain N W R l' 3 [] ∧ (∀ w, 0 ≤ w ∧ w < W → word W R l' a w = 0) ∧
      (∀ c w, 0 ≤ c ∧ c < N → 0 ≤ w ∧ w < W → c ≠ a → w ≠ 5 → word W R l' c w = word W R l c w) ∧ (∀ i : Nat, i < 24 → 2 < i → rd l' (i : Int) = rd l (i : Int)) ∧ Acc (16 + W.toNat) m m' := by
  have ha := hL.mem a (by simp)
  have hn := (List.nodup_cons.1 hL.nd).1
  obtain ⟨m1, l1, e1, h1, hL1, hM1, hA1, hF1, hk1⟩ := take_chain h m (k := 0) (r := 0) (q := 3) (Or.inl ⟨rfl, rfl⟩) (by decide) hL hM (by simp) hlen
  obtain ⟨n2, m2, l2, e2, hw, hA2⟩ := wipe_at h1 m1 ha k hk
  refine ⟨m2, l2, ?_, hw.ok, hw.chain (by decide) hn hL1, hw.chain (by decide) (by simp) hM1, fun w hr => ?_, fun c w hc hr hca h5 => ?_, fun i hi h2 => ?_, hA1.trans hA2⟩
  · unfold pool_Take.f
    refine Eq.trans (bind_is e1 _) ?_
    show (if true = true then _ else _) = _
    rw [if_pos rfl]
    exact bind_is e2 _
  · rw [hw.words a w ha hr, if_pos ⟨rfl, hr.2⟩]
  · rw [hw.words c w hc hr, if_neg (fun q => hca q.1)]
    exact hF1.words c w hc hr h5
  · rw [hw.regs i hi]
    exact hF1.regs i hi (by omega)
theorem pool_take_none {N W R K : Int} {l : List Int} (h : OK N W R K l) (m : Int) (hL : Chain N W R l 0 []) (k : Nat) : ∃ m', pool_Take.f k l m N W R K = some (0, false, m', l) := by
  obtain ⟨m1, e1⟩ := take_none h m (k := 0) (Or.inl ⟨rfl, rfl⟩) hL
  refine ⟨m1, ?_⟩
  unfold pool_Take.f
  refine Eq.trans (bind_is e1 _) ?_
  show (if false = true then _ else _) = _
  rw [if_neg (by decide)]
theorem sup_eq (a b : Int) (ha : 0 ≤ a) (ha' : a ≤ 1000000) (hb : 1 ≤ b) (hb' : b ≤ 1000000) : ratio_Up.f a b = some ((a + b - 1) / b) := by
  have h1 : cnt a = a := cnt_id ha (by omega)
  have h2 : byv b = b := by unfold byv; rw [cnt_id (by omega) (by omega)]; omega
  have h3 : 0 ≤ (a + b - 1) / b := Int.ediv_nonneg (by omega) (by omega)
  have h4 : (a + b - 1) / b ≤ a + b - 1 := Int.ediv_le_self _ (by omega)
  unfold ratio_Up.f; simp only [counts_eq, by_eq, h1, h2, Option.bind_some]
  rw [if_neg (by omega), wrap64_id (n := a + b) (by omega) (by omega), wrap64_id (n := a + b - 1) (by omega) (by omega), Int.tdiv_eq_ediv_of_nonneg (by omega), wrap64_id (by omega) (by omega)]
/-- The most fields. -/
def mostv (w : Int) : Int := (w - 8) * (w - 1)
theorem mostv_bounds {w : Int} (h : 16 ≤ w) (h' : w ≤ 256) : 120 ≤ mostv w ∧ mostv w ≤ 63240 := by
  unfold mostv
  have h1 : 8 * 15 ≤ (w - 8) * (w - 1) := Int.mul_le_mul (by omega) (by omega) (by omega) (by omega)
  have h2 : (w - 8) * (w - 1) ≤ 248 * 255 := Int.mul_le_mul (by omega) (by omega) (by omega) (by omega)
  omega
theorem isWidth_eq (w : Int) : shape_isWidth.f w = some (decide (16 ≤ w ∧ w ≤ 256)) := by
  unfold shape_isWidth.f
  by_cases h : w ≥ 16
  · rw [if_pos h]; congr 1; exact decide_eq_decide.2 (by omega)
  · rw [if_neg h]; congr 1; exact (decide_eq_false (by omega)).symm
theorem most_eq {w : Int} (h : 16 ≤ w) (h' : w ≤ 256) : shape_most.f w = some (mostv w) := by
  have hb := mostv_bounds h h'
  unfold mostv at hb
  unfold shape_most.f shape_inHead.f shape_inLeaf.f mostv
  simp only [Option.bind_some]
  rw [wrap64_id (n := w - 8) (by omega) (by omega), wrap64_id (n := w - 1) (by omega) (by omega), wrap64_id (by omega) (by omega)]
def wrongv (w n : Int) : Int := if 16 ≤ w ∧ w ≤ 256 then (if 0 ≤ n ∧ n ≤ mostv w then 0 else 3) else 1
def wrong2v (w n m : Int) : Int := if 16 ≤ w ∧ w ≤ 256 then (if 0 ≤ n ∧ 0 ≤ m ∧ n + m ≤ mostv w then 0 else 3) else 1
theorem wrong2_eq (k : Nat) (w n m : Int) : shape_wrong.f (k + 3) w [n, m] = some (wrong2v w n m) := by
  unfold shape_wrong.f wrong2v
  rw [isWidth_eq]
  simp only [Option.bind_some, decide_eq_true_eq]
  by_cases h : 16 ≤ w ∧ w ≤ 256
  · rw [if_pos h, if_pos h, most_eq h.1 h.2]
    have hb := mostv_bounds h.1 h.2
    generalize mostv w = M at *
    simp only [Option.bind_some]
    rw [shape_wrong.lo0, if_pos (by simp), if_pos (by omega), show rd [n, m] 0 = n from rfl, show wrap64 (0 + 1) = 1 by unfold wrap64; omega]
    by_cases h1 : n < 0
    · rw [if_pos h1, if_neg (by omega)]; rfl
    · rw [if_neg h1]
      by_cases h2 : n > M
      · rw [if_pos h2, if_neg (by omega)]; rfl
      · rw [if_neg h2, wrap64_id (n := M - n) (by omega) (by omega), shape_wrong.lo0, if_pos (by simp), if_pos (by omega), show rd [n, m] 1 = m from rfl, show wrap64 (1 + 1) = 2 by unfold wrap64; omega]
        by_cases h3 : m < 0
        · rw [if_pos (by omega), if_neg (by omega)]; rfl
        · rw [if_neg (by omega)]
          by_cases h4 : m > M - n
          · rw [if_pos h4, if_neg (by omega)]; rfl
          · rw [if_neg h4, shape_wrong.lo0, if_neg (by simp), if_pos (by omega)]; rfl
  · rw [if_neg h, if_neg h]
theorem sup_spec {x y L : Int} (hy : 1 ≤ y) (hL : L = (x + y - 1) / y) : L * y - y < x ∧ x ≤ L * y := by
  have e := Int.mul_ediv_add_emod (x + y - 1) y
  have h0 := Int.emod_nonneg (x + y - 1) (show y ≠ 0 by omega)
  have h1 := Int.emod_lt_of_pos (x + y - 1) (show 0 < y by omega)
  rw [← hL, Int.mul_comm] at e
  omega
def leavesv (w f : Int) : Int := if f ≤ w - 8 then 0 else (f + (w - 1) - 1) / (w - 1)
theorem leaves_spec {w f : Int} (h : 16 ≤ w) (h1 : f ≤ mostv w) :
    (f ≤ w - 8 ∧ leavesv w f = 0) ∨ (w - 8 < f ∧ 1 ≤ leavesv w f ∧ leavesv w f ≤ w - 8 ∧ leavesv w f * (w - 1) - (w - 1) < f ∧ f ≤ leavesv w f * (w - 1)) := by
  unfold leavesv
  by_cases hf : f ≤ w - 8
  · rw [if_pos hf]; exact .inl ⟨hf, rfl⟩
  · rw [if_neg hf]
    right
    have hs := sup_spec (x := f) (y := w - 1) (by omega) rfl
    generalize (f + (w - 1) - 1) / (w - 1) = L at *
    refine ⟨by omega, ?_, ?_, hs.1, hs.2⟩
    · have : 0 * (w - 1) < L * (w - 1) := by omega
      have := Int.lt_of_mul_lt_mul_right this (by omega)
      omega
    · have : (L - 1) * (w - 1) < (w - 8) * (w - 1) := by unfold mostv at h1; rw [Int.sub_mul]; omega
      have := Int.lt_of_mul_lt_mul_right this (by omega)
      omega
theorem leaves_unique {w f L : Int} (h : 16 ≤ w) (hf : w - 8 < f) (h1 : f ≤ mostv w) (hL : L * (w - 1) - (w - 1) < f) (hL' : f ≤ L * (w - 1)) : leavesv w f = L := by
  rcases leaves_spec h h1 with ⟨a, _⟩ | ⟨_, _, _, a, b⟩
  · omega
  · generalize leavesv w f = M at *
    have e1 : (L - 1) * (w - 1) < M * (w - 1) := by rw [Int.sub_mul]; omega
    have e2 : (M - 1) * (w - 1) < L * (w - 1) := by rw [Int.sub_mul]; omega
    have := Int.lt_of_mul_lt_mul_right e1 (by omega)
    have := Int.lt_of_mul_lt_mul_right e2 (by omega)
    omega
theorem leaves_eq {w f : Int} (h : 16 ≤ w) (h' : w ≤ 256) (h0 : 0 ≤ f) (h1 : f ≤ mostv w) : shape_leaves.f w f = some (leavesv w f) := by
  have hb := mostv_bounds h h'
  unfold shape_leaves.f shape_inHead.f shape_inLeaf.f leavesv
  simp only [Option.bind_some]
  rw [wrap64_id (by omega) (by omega)]
  by_cases hf : f ≤ w - 8
  · rw [if_pos hf, if_pos hf]
  · rw [if_neg hf, if_neg hf, wrap64_id (by omega) (by omega), sup_eq f (w - 1) (by omega) (by omega) (by omega) (by omega)]
    rfl
theorem blocks_eq (k : Nat) (w n m : Int) : shape_Blocks.f (k + 3) w n m = some (if wrong2v w n m = 0 then (1 + leavesv w (n + m), 0) else (0, wrong2v w n m)) := by
  unfold shape_Blocks.f
  rw [wrong2_eq]
  simp only [Option.bind_some]
  by_cases h : wrong2v w n m = 0
  · rw [if_pos h, if_pos h]
    unfold wrong2v at h
    split at h
    · rename_i hw
      split at h
      · rename_i hn
        have hb := mostv_bounds hw.1 hw.2
        have hl := leaves_spec (f := n + m) hw.1 hn.2.2
        rw [wrap64_id (by omega) (by omega), leaves_eq hw.1 hw.2 (by omega) hn.2.2]
        simp only [Option.bind_some]
        rw [wrap64_id (by omega) (by omega)]
      · omega
    · omega
  · rw [if_neg h, if_neg h]
theorem wrong_eq (k : Nat) (w n : Int) : shape_wrong.f (k + 2) w [n] = some (wrongv w n) := by
  unfold shape_wrong.f wrongv
  rw [isWidth_eq]
  simp only [Option.bind_some, decide_eq_true_eq]
  by_cases h : 16 ≤ w ∧ w ≤ 256
  · rw [if_pos h, if_pos h, most_eq h.1 h.2]
    have hb := mostv_bounds h.1 h.2
    generalize mostv w = M at *
    simp only [Option.bind_some]
    rw [shape_wrong.lo0, if_pos (by simp), if_pos (by omega), show rd [n] 0 = n from rfl, show wrap64 (0 + 1) = 1 by unfold wrap64; omega]
    by_cases h1 : n < 0
    · rw [if_pos h1, if_neg (by omega)]; rfl
    · rw [if_neg h1]
      by_cases h2 : n > M
      · rw [if_pos h2, if_neg (by omega)]; rfl
      · rw [if_neg h2, shape_wrong.lo0, if_neg (by simp), if_pos (by omega)]; rfl
  · rw [if_neg h, if_neg h]
/-- What stands behind 'nothing is wrong'. -/
theorem wrongv_ok {w n : Int} (h : wrongv w n = 0) : 16 ≤ w ∧ w ≤ 256 ∧ 0 ≤ n ∧ n ≤ mostv w := by
  unfold wrongv at h
  split at h
  · rename_i hw
    split at h
    · rename_i hn; exact ⟨hw.1, hw.2, hn.1, hn.2⟩
    · omega
  · omega
def placev (w f i : Int) : Int × Int × Int :=
  if wrongv w f = 0 then (if i < 0 ∨ f ≤ i then (0, 0, 7) else if leavesv w f = 0 then (-1, 8 + i, 0) else (i / (w - 1), 1 + i % (w - 1), 0)) else (0, 0, wrongv w f)
theorem in_leaf {w i : Int} (h : 16 ≤ w) (h0 : 0 ≤ i) : 0 ≤ i / (w - 1) ∧ i / (w - 1) ≤ i ∧ 0 ≤ i % (w - 1) ∧ i % (w - 1) < w - 1 :=
  ⟨Int.ediv_nonneg h0 (by omega), Int.ediv_le_self _ h0, Int.emod_nonneg _ (by omega), Int.emod_lt_of_pos _ (by omega)⟩
theorem place_eq (k : Nat) (w f i : Int) : shape_Place.f (k + 2) w f i = some (placev w f i) := by
  unfold shape_Place.f placev
  rw [wrong_eq]
  simp only [Option.bind_some]
  by_cases h : wrongv w f = 0
  · rw [if_pos h, if_pos h]
    obtain ⟨hw, hw', hf, hf'⟩ := wrongv_ok h
    have hb := mostv_bounds hw hw'
    by_cases h1 : i < 0
    · rw [if_pos h1, if_pos (by omega)]
    · rw [if_neg h1]
      by_cases h2 : i ≥ f
      · rw [if_pos h2, if_pos (by omega)]
      · rw [if_neg h2, if_neg (show ¬ (i < 0 ∨ f ≤ i) by omega), leaves_eq hw hw' hf hf']
        have hi := in_leaf (i := i) hw (by omega)
        unfold shape_inLeaf.f
        simp only [Option.bind_some]
        rw [wrap64_id (n := w - 1) (by omega) (by omega), wrap64_id (n := 8 + i) (by omega) (by omega), Int.tdiv_eq_ediv_of_nonneg (by omega), Int.tmod_eq_emod_of_nonneg (by omega), wrap64_id (n := i / (w - 1)) (by omega) (by omega), wrap64_id (n := 1 + i % (w - 1)) (by omega) (by omega)]
        by_cases h3 : leavesv w f = 0
        · rw [if_pos h3, if_pos h3]
        · rw [if_neg h3, if_neg h3, if_neg (by omega), if_neg (by omega)]
  · rw [if_neg h, if_neg h]
theorem conf_eq (l : List Int) (m N W R K : Int) : ground_Ground_Conf.f l m N W R K = some (N, W, R, K) := rfl
theorem zz : (0 : Int) ≤ 0 ∧ (0 : Int) < 16 := by decide
theorem z1 : (0 : Int) ≤ 1 ∧ (1 : Int) < 16 := by decide
theorem z2 : (0 : Int) ≤ 2 ∧ (2 : Int) < 16 := by decide
theorem z3 : (0 : Int) ≤ 3 ∧ (3 : Int) < 16 := by decide
def up (m : Int) : Int := IntKind.u64.wrap (m + 1)
theorem most16 : mostv 16 = 120 := by decide
theorem leaves16 {f : Int} (h0 : 0 ≤ f) (h1 : f ≤ 120) : 0 ≤ leavesv 16 f ∧ leavesv 16 f ≤ 8 ∧ (8 < f → 1 ≤ leavesv 16 f ∧ f ≤ leavesv 16 f * 15) ∧ (f ≤ 8 → leavesv 16 f = 0) := by
  unfold leavesv
  split <;> omega
theorem rd_nat' (l : List Int) (i : Nat) (h : i < l.length) : rd l (i : Int) = l[i] := rd_nat l i h
theorem rd_mem (l : List Int) (i : Nat) (h : i < l.length) : rd l (i : Int) ∈ l := by rw [rd_nat' l i h]; exact List.getElem_mem h
def fitv (P D : Int) : Prop := 0 ≤ P ∧ 0 ≤ D ∧ P + D ≤ 120
instance (P D : Int) : Decidable (fitv P D) := by unfold fitv; infer_instance
theorem shape_ok {P D : Int} (h : fitv P D) (k : Nat) (hk : 10 ≤ k) : shape_Blocks.f k 16 P D = some (1 + leavesv 16 (P + D), 0) := by
  obtain ⟨k, rfl⟩ : ∃ q, k = q + 3 := ⟨k - 3, by omega⟩
  have hw : wrong2v 16 P D = 0 := by unfold wrong2v; rw [if_pos (by decide), if_pos (by rw [most16]; exact h)]
  rw [blocks_eq, if_pos hw]
theorem shape_not {P D : Int} (h : ¬ fitv P D) (k : Nat) (hk : 10 ≤ k) : shape_Blocks.f k 16 P D = some (0, 3) := by
  obtain ⟨k, rfl⟩ : ∃ q, k = q + 3 := ⟨k - 3, by omega⟩
  have hw : wrong2v 16 P D = 3 := by unfold wrong2v; rw [if_pos (by decide), if_neg (by rw [most16]; exact h)]
  rw [blocks_eq, if_neg (by rw [hw]; decide), hw]
theorem pkA (k : Nat) (hk : 60 ≤ k) : tag_Pack.f k 1 0 0 0 0 0 0 = some (1, 0) ∧ tag_Pack.f k 2 0 0 0 0 0 0 = some (2, 0) := by
  obtain ⟨k, rfl⟩ : ∃ q, k = q + 60 := ⟨k - 60, by omega⟩
  constructor <;> kernel_rfl
theorem pkn0 (k : Nat) : tag_Pack.f (k + 60) 3 0 0 0 0 0 0 = some (3 + 256 * 0, 0) := by kernel_rfl
theorem pkn1 (k : Nat) : tag_Pack.f (k + 60) 3 0 0 0 0 0 1 = some (3 + 256 * 1, 0) := by kernel_rfl
theorem pkn2 (k : Nat) : tag_Pack.f (k + 60) 3 0 0 0 0 0 2 = some (3 + 256 * 2, 0) := by kernel_rfl
theorem pkn3 (k : Nat) : tag_Pack.f (k + 60) 3 0 0 0 0 0 3 = some (3 + 256 * 3, 0) := by kernel_rfl
theorem pkn4 (k : Nat) : tag_Pack.f (k + 60) 3 0 0 0 0 0 4 = some (3 + 256 * 4, 0) := by kernel_rfl
theorem pkn5 (k : Nat) : tag_Pack.f (k + 60) 3 0 0 0 0 0 5 = some (3 + 256 * 5, 0) := by kernel_rfl
theorem pkn6 (k : Nat) : tag_Pack.f (k + 60) 3 0 0 0 0 0 6 = some (3 + 256 * 6, 0) := by kernel_rfl
theorem pkn7 (k : Nat) : tag_Pack.f (k + 60) 3 0 0 0 0 0 7 = some (3 + 256 * 7, 0) := by kernel_rfl
theorem pkn8 (k : Nat) : tag_Pack.f (k + 60) 3 0 0 0 0 0 8 = some (3 + 256 * 8, 0) := by kernel_rfl
theorem pkn9 (k : Nat) : tag_Pack.f (k + 60) 3 0 0 0 0 0 9 = some (3 + 256 * 9, 0) := by kernel_rfl
theorem pkn10 (k : Nat) : tag_Pack.f (k + 60) 3 0 0 0 0 0 10 = some (3 + 256 * 10, 0) := by kernel_rfl
theorem pkn11 (k : Nat) : tag_Pack.f (k + 60) 3 0 0 0 0 0 11 = some (3 + 256 * 11, 0) := by kernel_rfl
theorem pkn12 (k : Nat) : tag_Pack.f (k + 60) 3 0 0 0 0 0 12 = some (3 + 256 * 12, 0) := by kernel_rfl
theorem pkn13 (k : Nat) : tag_Pack.f (k + 60) 3 0 0 0 0 0 13 = some (3 + 256 * 13, 0) := by kernel_rfl
theorem pkn14 (k : Nat) : tag_Pack.f (k + 60) 3 0 0 0 0 0 14 = some (3 + 256 * 14, 0) := by kernel_rfl
theorem pkn15 (k : Nat) : tag_Pack.f (k + 60) 3 0 0 0 0 0 15 = some (3 + 256 * 15, 0) := by kernel_rfl
theorem pkn16 (k : Nat) : tag_Pack.f (k + 60) 3 0 0 0 0 0 16 = some (3 + 256 * 16, 0) := by kernel_rfl
theorem pkn17 (k : Nat) : tag_Pack.f (k + 60) 3 0 0 0 0 0 17 = some (3 + 256 * 17, 0) := by kernel_rfl
theorem pkn18 (k : Nat) : tag_Pack.f (k + 60) 3 0 0 0 0 0 18 = some (3 + 256 * 18, 0) := by kernel_rfl
theorem pkn19 (k : Nat) : tag_Pack.f (k + 60) 3 0 0 0 0 0 19 = some (3 + 256 * 19, 0) := by kernel_rfl
theorem pkn20 (k : Nat) : tag_Pack.f (k + 60) 3 0 0 0 0 0 20 = some (3 + 256 * 20, 0) := by kernel_rfl
theorem pkn21 (k : Nat) : tag_Pack.f (k + 60) 3 0 0 0 0 0 21 = some (3 + 256 * 21, 0) := by kernel_rfl
theorem pkn22 (k : Nat) : tag_Pack.f (k + 60) 3 0 0 0 0 0 22 = some (3 + 256 * 22, 0) := by kernel_rfl
theorem pkn23 (k : Nat) : tag_Pack.f (k + 60) 3 0 0 0 0 0 23 = some (3 + 256 * 23, 0) := by kernel_rfl
theorem pkn24 (k : Nat) : tag_Pack.f (k + 60) 3 0 0 0 0 0 24 = some (3 + 256 * 24, 0) := by kernel_rfl
theorem pkn25 (k : Nat) : tag_Pack.f (k + 60) 3 0 0 0 0 0 25 = some (3 + 256 * 25, 0) := by kernel_rfl
theorem pkn26 (k : Nat) : tag_Pack.f (k + 60) 3 0 0 0 0 0 26 = some (3 + 256 * 26, 0) := by kernel_rfl
theorem pkn27 (k : Nat) : tag_Pack.f (k + 60) 3 0 0 0 0 0 27 = some (3 + 256 * 27, 0) := by kernel_rfl
theorem pkn28 (k : Nat) : tag_Pack.f (k + 60) 3 0 0 0 0 0 28 = some (3 + 256 * 28, 0) := by kernel_rfl
theorem pkn29 (k : Nat) : tag_Pack.f (k + 60) 3 0 0 0 0 0 29 = some (3 + 256 * 29, 0) := by kernel_rfl
theorem pkn30 (k : Nat) : tag_Pack.f (k + 60) 3 0 0 0 0 0 30 = some (3 + 256 * 30, 0) := by kernel_rfl
theorem pkn31 (k : Nat) : tag_Pack.f (k + 60) 3 0 0 0 0 0 31 = some (3 + 256 * 31, 0) := by kernel_rfl
theorem pkn32 (k : Nat) : tag_Pack.f (k + 60) 3 0 0 0 0 0 32 = some (3 + 256 * 32, 0) := by kernel_rfl
theorem pkn33 (k : Nat) : tag_Pack.f (k + 60) 3 0 0 0 0 0 33 = some (3 + 256 * 33, 0) := by kernel_rfl
theorem pkn34 (k : Nat) : tag_Pack.f (k + 60) 3 0 0 0 0 0 34 = some (3 + 256 * 34, 0) := by kernel_rfl
theorem pkn35 (k : Nat) : tag_Pack.f (k + 60) 3 0 0 0 0 0 35 = some (3 + 256 * 35, 0) := by kernel_rfl
theorem pkn36 (k : Nat) : tag_Pack.f (k + 60) 3 0 0 0 0 0 36 = some (3 + 256 * 36, 0) := by kernel_rfl
theorem pkn37 (k : Nat) : tag_Pack.f (k + 60) 3 0 0 0 0 0 37 = some (3 + 256 * 37, 0) := by kernel_rfl
theorem pkn38 (k : Nat) : tag_Pack.f (k + 60) 3 0 0 0 0 0 38 = some (3 + 256 * 38, 0) := by kernel_rfl
theorem pkn39 (k : Nat) : tag_Pack.f (k + 60) 3 0 0 0 0 0 39 = some (3 + 256 * 39, 0) := by kernel_rfl
theorem pkn40 (k : Nat) : tag_Pack.f (k + 60) 3 0 0 0 0 0 40 = some (3 + 256 * 40, 0) := by kernel_rfl
theorem pkn41 (k : Nat) : tag_Pack.f (k + 60) 3 0 0 0 0 0 41 = some (3 + 256 * 41, 0) := by kernel_rfl
theorem pkn42 (k : Nat) : tag_Pack.f (k + 60) 3 0 0 0 0 0 42 = some (3 + 256 * 42, 0) := by kernel_rfl
theorem pkn43 (k : Nat) : tag_Pack.f (k + 60) 3 0 0 0 0 0 43 = some (3 + 256 * 43, 0) := by kernel_rfl
theorem pkn44 (k : Nat) : tag_Pack.f (k + 60) 3 0 0 0 0 0 44 = some (3 + 256 * 44, 0) := by kernel_rfl
theorem pkn45 (k : Nat) : tag_Pack.f (k + 60) 3 0 0 0 0 0 45 = some (3 + 256 * 45, 0) := by kernel_rfl
theorem pkn46 (k : Nat) : tag_Pack.f (k + 60) 3 0 0 0 0 0 46 = some (3 + 256 * 46, 0) := by kernel_rfl
theorem pkn47 (k : Nat) : tag_Pack.f (k + 60) 3 0 0 0 0 0 47 = some (3 + 256 * 47, 0) := by kernel_rfl
theorem pkn48 (k : Nat) : tag_Pack.f (k + 60) 3 0 0 0 0 0 48 = some (3 + 256 * 48, 0) := by kernel_rfl
theorem pkn49 (k : Nat) : tag_Pack.f (k + 60) 3 0 0 0 0 0 49 = some (3 + 256 * 49, 0) := by kernel_rfl
theorem pkn50 (k : Nat) : tag_Pack.f (k + 60) 3 0 0 0 0 0 50 = some (3 + 256 * 50, 0) := by kernel_rfl
theorem pkn51 (k : Nat) : tag_Pack.f (k + 60) 3 0 0 0 0 0 51 = some (3 + 256 * 51, 0) := by kernel_rfl
theorem pkn52 (k : Nat) : tag_Pack.f (k + 60) 3 0 0 0 0 0 52 = some (3 + 256 * 52, 0) := by kernel_rfl
theorem pkn53 (k : Nat) : tag_Pack.f (k + 60) 3 0 0 0 0 0 53 = some (3 + 256 * 53, 0) := by kernel_rfl
theorem pkn54 (k : Nat) : tag_Pack.f (k + 60) 3 0 0 0 0 0 54 = some (3 + 256 * 54, 0) := by kernel_rfl
theorem pkn55 (k : Nat) : tag_Pack.f (k + 60) 3 0 0 0 0 0 55 = some (3 + 256 * 55, 0) := by kernel_rfl
theorem pkn56 (k : Nat) : tag_Pack.f (k + 60) 3 0 0 0 0 0 56 = some (3 + 256 * 56, 0) := by kernel_rfl
theorem pkn57 (k : Nat) : tag_Pack.f (k + 60) 3 0 0 0 0 0 57 = some (3 + 256 * 57, 0) := by kernel_rfl
theorem pkn58 (k : Nat) : tag_Pack.f (k + 60) 3 0 0 0 0 0 58 = some (3 + 256 * 58, 0) := by kernel_rfl
theorem pkn59 (k : Nat) : tag_Pack.f (k + 60) 3 0 0 0 0 0 59 = some (3 + 256 * 59, 0) := by kernel_rfl
theorem pkL0 (k : Nat) {h : Int} (h0 : 0 ≤ h ∧ h < 10) : tag_Pack.f (k + 60) 3 0 0 0 0 0 h = some (3 + 256 * h, 0) := by
  have : h = 0 ∨ h = 1 ∨ h = 2 ∨ h = 3 ∨ h = 4 ∨ h = 5 ∨ h = 6 ∨ h = 7 ∨ h = 8 ∨ h = 9 := by omega
  rcases this with e | e | e | e | e | e | e | e | e | e
  · subst e; exact pkn0 k
  · subst e; exact pkn1 k
  · subst e; exact pkn2 k
  · subst e; exact pkn3 k
  · subst e; exact pkn4 k
  · subst e; exact pkn5 k
  · subst e; exact pkn6 k
  · subst e; exact pkn7 k
  · subst e; exact pkn8 k
  · subst e; exact pkn9 k
theorem pkL10 (k : Nat) {h : Int} (h0 : 10 ≤ h ∧ h < 20) : tag_Pack.f (k + 60) 3 0 0 0 0 0 h = some (3 + 256 * h, 0) := by
  have : h = 10 ∨ h = 11 ∨ h = 12 ∨ h = 13 ∨ h = 14 ∨ h = 15 ∨ h = 16 ∨ h = 17 ∨ h = 18 ∨ h = 19 := by omega
  rcases this with e | e | e | e | e | e | e | e | e | e
  · subst e; exact pkn10 k
  · subst e; exact pkn11 k
  · subst e; exact pkn12 k
  · subst e; exact pkn13 k
  · subst e; exact pkn14 k
  · subst e; exact pkn15 k
  · subst e; exact pkn16 k
  · subst e; exact pkn17 k
  · subst e; exact pkn18 k
  · subst e; exact pkn19 k
theorem pkL20 (k : Nat) {h : Int} (h0 : 20 ≤ h ∧ h < 30) : tag_Pack.f (k + 60) 3 0 0 0 0 0 h = some (3 + 256 * h, 0) := by
  have : h = 20 ∨ h = 21 ∨ h = 22 ∨ h = 23 ∨ h = 24 ∨ h = 25 ∨ h = 26 ∨ h = 27 ∨ h = 28 ∨ h = 29 := by omega
  rcases this with e | e | e | e | e | e | e | e | e | e
  · subst e; exact pkn20 k
  · subst e; exact pkn21 k
  · subst e; exact pkn22 k
  · subst e; exact pkn23 k
  · subst e; exact pkn24 k
  · subst e; exact pkn25 k
  · subst e; exact pkn26 k
  · subst e; exact pkn27 k
  · subst e; exact pkn28 k
  · subst e; exact pkn29 k
theorem pkL30 (k : Nat) {h : Int} (h0 : 30 ≤ h ∧ h < 40) : tag_Pack.f (k + 60) 3 0 0 0 0 0 h = some (3 + 256 * h, 0) := by
  have : h = 30 ∨ h = 31 ∨ h = 32 ∨ h = 33 ∨ h = 34 ∨ h = 35 ∨ h = 36 ∨ h = 37 ∨ h = 38 ∨ h = 39 := by omega
  rcases this with e | e | e | e | e | e | e | e | e | e
  · subst e; exact pkn30 k
  · subst e; exact pkn31 k
  · subst e; exact pkn32 k
  · subst e; exact pkn33 k
  · subst e; exact pkn34 k
  · subst e; exact pkn35 k
  · subst e; exact pkn36 k
  · subst e; exact pkn37 k
  · subst e; exact pkn38 k
  · subst e; exact pkn39 k
theorem pkL40 (k : Nat) {h : Int} (h0 : 40 ≤ h ∧ h < 50) : tag_Pack.f (k + 60) 3 0 0 0 0 0 h = some (3 + 256 * h, 0) := by
  have : h = 40 ∨ h = 41 ∨ h = 42 ∨ h = 43 ∨ h = 44 ∨ h = 45 ∨ h = 46 ∨ h = 47 ∨ h = 48 ∨ h = 49 := by omega
  rcases this with e | e | e | e | e | e | e | e | e | e
  · subst e; exact pkn40 k
  · subst e; exact pkn41 k
  · subst e; exact pkn42 k
  · subst e; exact pkn43 k
  · subst e; exact pkn44 k
  · subst e; exact pkn45 k
  · subst e; exact pkn46 k
  · subst e; exact pkn47 k
  · subst e; exact pkn48 k
  · subst e; exact pkn49 k
theorem pkL50 (k : Nat) {h : Int} (h0 : 50 ≤ h ∧ h < 60) : tag_Pack.f (k + 60) 3 0 0 0 0 0 h = some (3 + 256 * h, 0) := by
  have : h = 50 ∨ h = 51 ∨ h = 52 ∨ h = 53 ∨ h = 54 ∨ h = 55 ∨ h = 56 ∨ h = 57 ∨ h = 58 ∨ h = 59 := by omega
  rcases this with e | e | e | e | e | e | e | e | e | e
  · subst e; exact pkn50 k
  · subst e; exact pkn51 k
  · subst e; exact pkn52 k
  · subst e; exact pkn53 k
  · subst e; exact pkn54 k
  · subst e; exact pkn55 k
  · subst e; exact pkn56 k
  · subst e; exact pkn57 k
  · subst e; exact pkn58 k
  · subst e; exact pkn59 k
theorem pkL (k : Nat) (hk : 60 ≤ k) {h : Int} (h0 : 0 ≤ h ∧ h < 60) : tag_Pack.f k 3 0 0 0 0 0 h = some (3 + 256 * h, 0) := by
  obtain ⟨k, rfl⟩ : ∃ q, k = q + 60 := ⟨k - 60, by omega⟩
  by_cases a1 : h < 10
  · exact pkL0 k (by omega)
  by_cases a2 : h < 20
  · exact pkL10 k (by omega)
  by_cases a3 : h < 30
  · exact pkL20 k (by omega)
  by_cases a4 : h < 40
  · exact pkL30 k (by omega)
  by_cases a5 : h < 50
  · exact pkL40 k (by omega)
  exact pkL50 k (by omega)
theorem unk (x : Int) (h : 0 ≤ x ∧ x < 4294967296) : ∃ a b c d e f, tag_Unpack.f x = some (x % 4, a, b, c, d, e, f) := by
  obtain ⟨w, rfl⟩ := Int.eq_ofNat_of_zero_le h.1
  exact ⟨_, _, _, _, _, _, by rw [unpack_eq w (by omega)]; rfl⟩
/-- An object in a store: its head, its leaves, and how many pointers and words it has. -/
structure Obj (n : Nat) (l : List Int) (h : Int) (B : List Int) (P D : Int) : Prop where
  fits : fitv P D
  size : (B.length : Int) = leavesv 16 (P + D)
  nd : (h :: B).Nodup
  mem : ∀ x ∈ h :: B, 0 ≤ x ∧ x < (n : Int)
  tag : word 16 1 l h 0 % 4 = if B = [] then 1 else 2
  p1 : word 16 1 l h 1 = P
  p2 : word 16 1 l h 2 = D
  leaf : ∀ t : Nat, t < B.length → word 16 1 l h (8 + (t : Int)) = rd B (t : Int) + 1
  ltag : ∀ x ∈ B, word 16 1 l x 0 = 3 + 256 * h
theorem Obj.few {n : Nat} {l : List Int} {h : Int} {B : List Int} {P D : Int} (o : Obj n l h B P D) : B.length ≤ 8 := by
  have := o.size
  have := leaves16 (f := P + D) (by have := o.fits; unfold fitv at this; omega) o.fits.2.2
  omega
theorem Obj.frame {n : Nat} {l l' : List Int} {h : Int} {B : List Int} {P D : Int} (o : Obj n l h B P D) (hw : ∀ c w : Int, c ∈ h :: B → 0 ≤ w ∧ w < 16 → w ≠ 5 → (c = h → w ≠ 3) → word 16 1 l' c w = word 16 1 l c w) : Obj n l' h B P D := by
  have hf := o.few
  exact ⟨o.fits, o.size, o.nd, o.mem, by rw [hw h 0 (by simp) zz (by decide) (fun _ => by decide)]; exact o.tag, by rw [hw h 1 (by simp) z1 (by decide) (fun _ => by decide)]; exact o.p1, by rw [hw h 2 (by simp) z2 (by decide) (fun _ => by decide)]; exact o.p2,
    fun t ht => by rw [hw h (8 + (t : Int)) (by simp) (by omega) (by omega) (fun _ => by omega)]; exact o.leaf t ht, fun x hx => by rw [hw x 0 (by simp [hx]) zz (by decide) (fun _ => by decide)]; exact o.ltag x hx⟩
/-- While an object is made: its head stands, and j of its leaves. -/
structure MI (n : Nat) (h K P D : Int) (B Rest l0 : List Int) (j : Nat) (l : List Int) : Prop where
  ok : OK (n : Int) 16 1 1 l
  pool : Chain (n : Int) 16 1 l 0 (B.drop j ++ Rest)
  none3 : Chain (n : Int) 16 1 l 3 []
  tag : word 16 1 l h 0 = K
  p1 : word 16 1 l h 1 = P
  p2 : word 16 1 l h 2 = D
  p3 : word 16 1 l h 3 = 0
  leaf : ∀ t : Nat, t < j → word 16 1 l h (8 + (t : Int)) = rd B (t : Int) + 1
  ltag : ∀ t : Nat, t < j → word 16 1 l (rd B (t : Int)) 0 = 3 + 256 * h
  same : ∀ c w : Int, 0 ≤ c ∧ c < (n : Int) → 0 ≤ w ∧ w < 16 → w ≠ 5 → c ≠ h → c ∉ B → word 16 1 l c w = word 16 1 l0 c w
  regs : ∀ i : Nat, i < 24 → 2 < i → rd l (i : Int) = rd l0 (i : Int)
theorem MI.step {n : Nat} (hs : n ≤ 60) {h K P D : Int} {B Rest l0 : List Int} {j : Nat} {l : List Int} (I : MI n h K P D B Rest l0 j l) (hnd : (h :: B).Nodup) (hmem : ∀ x ∈ h :: B, 0 ≤ x ∧ x < (n : Int)) (hj : j < B.length) (hB : B.length ≤ 8) (hR : Rest.length < 100000) (m : Int) (k : Nat) (hk : 400 ≤ k) :
    ∃ m1 l1, pool_Take.f k l m (n : Int) 16 1 1 = some (rd B (j : Int), true, m1, l1) ∧ OK (n : Int) 16 1 1 l1 ∧ obj_mark.f k l1 m1 (n : Int) 16 1 1 (rd B (j : Int)) 3 0 0 0 0 0 h = some (up m1, l1.set (wp 16 1 (rd B (j : Int)) 0) (3 + 256 * h)) ∧
      ground_Ground_SetWord.f (l1.set (wp 16 1 (rd B (j : Int)) 0) (3 + 256 * h)) (up m1) (n : Int) 16 1 1 h (wrap64 (8 + (j : Int))) ((wrap64 (rd B (j : Int) + 1)) % 4294967296) = some (true, up (up m1), (l1.set (wp 16 1 (rd B (j : Int)) 0) (3 + 256 * h)).set (wp 16 1 h (8 + (j : Int))) (rd B (j : Int) + 1)) ∧
      MI n h K P D B Rest l0 (j + 1) ((l1.set (wp 16 1 (rd B (j : Int)) 0) (3 + 256 * h)).set (wp 16 1 h (8 + (j : Int))) (rd B (j : Int) + 1)) := by
  have hmay := I.ok.may
  have hh := hmem h (by simp)
  obtain ⟨hhB, hndB⟩ := List.nodup_cons.1 hnd
  have haB := rd_mem B j hj
  have ha := hmem _ (List.mem_cons_of_mem h haB)
  have hah : rd B (j : Int) ≠ h := fun e => hhB (e ▸ haB)
  have hinj : ∀ t : Nat, t < j → rd B (t : Int) ≠ rd B (j : Int) := fun t ht e => by
    rw [rd_nat' B t (by omega), rd_nat' B j hj] at e
    exact List.pairwise_iff_getElem.1 hndB t j (by omega) hj ht e
  have hL := I.pool
  rw [List.drop_eq_getElem_cons hj, ← rd_nat' B j hj] at hL
  have hlen : (B.drop (j + 1) ++ Rest).length < 1000000 := by simp only [List.length_append, List.length_drop]; omega
  obtain ⟨m1, l1, e1, hO1, hL1, hM1, hz, hw, hg, _⟩ := pool_take I.ok m hL I.none3 hlen k (by omega)
  generalize ea : rd B (j : Int) = a at *
  have hv : 0 ≤ 3 + 256 * h ∧ 3 + 256 * h < 4294967296 := by omega
  have w8 : 0 ≤ 8 + (j : Int) ∧ 8 + (j : Int) < 16 := by omega
  have hO2 := hO1.set (wp 16 1 a 0) (3 + 256 * h) hv.1 hv.2
  have hO3 := hO2.set (wp 16 1 h (8 + (j : Int))) (a + 1) (by omega) (by omega)
  have wd : ∀ c w : Int, 0 ≤ c ∧ c < (n : Int) → 0 ≤ w ∧ w < 16 → word 16 1 ((l1.set (wp 16 1 a 0) (3 + 256 * h)).set (wp 16 1 h (8 + (j : Int))) (a + 1)) c w = if h = c ∧ 8 + (j : Int) = w then a + 1 else if a = c ∧ 0 = w then 3 + 256 * h else word 16 1 l1 c w := fun c w hc hw2 => by
    rw [word_set hmay hO2.len hh hc w8 hw2, word_set hmay hO1.len ha hc zz hw2]
  refine ⟨m1, l1, e1, hO1, ?_, ?_, hO3, ?_, ?_, ?_, ?_, ?_, ?_, fun t ht => ?_, fun t ht => ?_, fun c w hc hw2 h5 hch hcB => ?_, fun i h1 h2 => ?_⟩
  · unfold obj_mark.f
    refine Eq.trans (bind_is (pkL k (by omega) (by omega)) _) ?_
    dsimp only
    rw [if_pos rfl]
    exact bind_is (SetWord_at hO1 m1 ha zz _) _
  · rw [wrap64_id (n := 8 + (j : Int)) (by omega) (by omega), wrap64_id (n := a + 1) (by omega) (by omega), show (a + 1) % 4294967296 = a + 1 by omega]
    exact SetWord_at hO2 (up m1) hh w8 _
  · exact Chain.word hmay hO2.len (by decide) hh w8 (Or.inl (by omega)) _ (Chain.word hmay hO1.len (by decide) ha zz (Or.inl (by decide)) _ hL1)
  · exact Chain.word hmay hO2.len (by decide) hh w8 (Or.inl (by omega)) _ (Chain.word hmay hO1.len (by decide) ha zz (Or.inl (by decide)) _ hM1)
  · rw [wd h 0 hh zz, if_neg (by omega), if_neg (fun q => hah q.1), hw h 0 hh zz (fun q => hah q.symm) (by decide)]; exact I.tag
  · rw [wd h 1 hh z1, if_neg (by omega), if_neg (fun q => hah q.1), hw h 1 hh z1 (fun q => hah q.symm) (by decide)]; exact I.p1
  · rw [wd h 2 hh z2, if_neg (by omega), if_neg (fun q => hah q.1), hw h 2 hh z2 (fun q => hah q.symm) (by decide)]; exact I.p2
  · rw [wd h 3 hh z3, if_neg (by omega), if_neg (fun q => hah q.1), hw h 3 hh z3 (fun q => hah q.symm) (by decide)]; exact I.p3
  · by_cases e : t = j
    · subst e; rw [wd h _ hh w8, if_pos ⟨rfl, rfl⟩]; first | rfl | (rename_i q; exact q) | omega
    · rw [wd h (8 + (t : Int)) hh (by omega), if_neg (by omega), if_neg (fun q => hah q.1), hw h (8 + (t : Int)) hh (by omega) (fun q => hah q.symm) (by omega)]; exact I.leaf t (by omega)
  · by_cases e : t = j
    · rw [e, ea, wd a 0 ha zz, if_neg (fun q => hah q.1.symm), if_pos ⟨rfl, rfl⟩]
    · have hb := hmem _ (List.mem_cons_of_mem h (rd_mem B t (by omega)))
      rw [wd _ 0 hb zz, if_neg (by omega), if_neg (fun q => hinj t (by omega) q.1.symm), hw _ 0 hb zz (hinj t (by omega)) (by decide)]; exact I.ltag t (by omega)
  · have hca : c ≠ a := fun q => hcB (q ▸ haB)
    rw [wd c w hc hw2, if_neg (fun q => hch q.1.symm), if_neg (fun q => hca q.1.symm), hw c w hc hw2 hca h5]; exact I.same c w hc hw2 h5 hch hcB
  · rw [reg_word hmay hO2.len hh w8 h1, reg_word hmay hO1.len ha zz h1, hg i h1 h2]; exact I.regs i h1 h2
theorem make_lo {n : Nat} (hs : n ≤ 60) {h K P D : Int} {B Rest l0 ws : List Int} (hnd : (h :: B).Nodup) (hmem : ∀ x ∈ h :: B, 0 ≤ x ∧ x < (n : Int)) (hB : B.length ≤ 8) (hR : Rest.length < 100000) (mm : Int) : ∀ (d k j : Nat) (l : List Int) (m : Int), MI n h K P D B Rest l0 j l → j + d = B.length → d + 400 < k →
    ∃ l' m', obj_Make.lo0 k (n : Int) 16 1 1 (1 + (B.length : Int), 0) (h, true, mm, ws) (j : Int) l m = some (l', m') ∧ MI n h K P D B Rest l0 B.length l' := by
  intro d
  induction d with
  | zero =>
    intro k j l m I hj hk
    obtain ⟨k, rfl⟩ : ∃ q, k = q + 1 := ⟨k - 1, by omega⟩
    have hj' : j = B.length := by omega
    subst hj'
    exact ⟨l, m, by rw [obj_Make.lo0, wrap64_id (n := (1 + (B.length : Int), (0 : Int)).1 - 1) (by dsimp only; omega) (by dsimp only; omega), if_neg (by dsimp only; omega)], I⟩
  | succ d ih =>
    intro k j l m I hj hk
    obtain ⟨k, rfl⟩ : ∃ q, k = q + 1 := ⟨k - 1, by omega⟩
    obtain ⟨m1, l1, e1, _, e2, e3, I'⟩ := I.step hs hnd hmem (by omega) hB hR m k (by omega)
    obtain ⟨l', m', e, hf⟩ := ih k (j + 1) _ (up (up m1)) I' (by omega) (by omega)
    refine ⟨l', m', ?_, hf⟩
    rw [obj_Make.lo0, wrap64_id (n := (1 + (B.length : Int), (0 : Int)).1 - 1) (by dsimp only; omega) (by dsimp only; omega), if_pos (by dsimp only; omega)]
    refine Eq.trans (bind_is e1 _) ?_
    dsimp only
    refine Eq.trans (bind_is e2 _) ?_
    dsimp only
    refine Eq.trans (bind_is e3 _) ?_
    dsimp only
    rw [next_i j (by omega)]
    exact e
/-- An object is made out of the first clean blocks. -/
theorem make_ok {n : Nat} (hs : n ≤ 60) {l : List Int} {h P D : Int} {B Rest : List Int} (hO : OK (n : Int) 16 1 1 l) (hL : Chain (n : Int) 16 1 l 0 (h :: (B ++ Rest))) (hM : Chain (n : Int) 16 1 l 3 []) (hf : fitv P D) (hB : (B.length : Int) = leavesv 16 (P + D)) (m : Int) (k : Nat) (hk : 900 ≤ k) :
    ∃ m' l', obj_Make.f k l m (n : Int) 16 1 1 P D = some (h + 1, 0, m', l') ∧ OK (n : Int) 16 1 1 l' ∧ Chain (n : Int) 16 1 l' 0 Rest ∧ Chain (n : Int) 16 1 l' 3 [] ∧ Obj n l' h B P D ∧ word 16 1 l' h 3 = 0 ∧ word 16 1 l' h 0 = (if B = [] then 1 else 2) ∧
      (∀ c w : Int, 0 ≤ c ∧ c < (n : Int) → 0 ≤ w ∧ w < 16 → w ≠ 5 → c ≠ h → c ∉ B → word 16 1 l' c w = word 16 1 l c w) ∧ (∀ i : Nat, i < 24 → 2 < i → rd l' (i : Int) = rd l (i : Int)) := by
  have hmay := hO.may
  have hf' := hf
  unfold fitv at hf'
  have hlv := leaves16 (f := P + D) (by omega) (by omega)
  have hB8 : B.length ≤ 8 := by omega
  have hnd : (h :: (B ++ Rest)).Nodup := hL.nd
  have hnd2 : (h :: B).Nodup := by
    obtain ⟨a1, a2⟩ := List.nodup_cons.1 hnd
    exact List.nodup_cons.2 ⟨fun q => a1 (by simp [q]), (List.nodup_append.1 a2).1⟩
  have hmem : ∀ x ∈ h :: B, 0 ≤ x ∧ x < (n : Int) := fun x hx => hL.mem x (by
    rcases List.mem_cons.1 hx with hx | hx
    · simp [hx]
    · simp [hx])
  have hh := hmem h (by simp)
  have hfew := hL.nd.length_le_of_subset (l₂ := iv 0 n) (fun x hx => by
    have := hL.mem x hx
    unfold iv
    exact List.mem_map.2 ⟨x.toNat, List.mem_range'_1.2 (by omega), by omega⟩)
  rw [iv_len] at hfew
  simp only [List.length_cons, List.length_append] at hfew
  obtain ⟨m1, l1, e1, hO1, hL1, hM1, hz, hw, hg, _⟩ := pool_take hO (IntKind.u64.wrap (m + 1)) hL hM (by simp only [List.length_append]; omega) k (by omega)
  have el : pool_Len.f l m (n : Int) 16 1 1 = some (1 + (B.length : Int) + (Rest.length : Int), IntKind.u64.wrap (m + 1)) := by
    unfold pool_Len.f
    refine Eq.trans (bind_is (len_chain hO m (Or.inl ⟨rfl, rfl⟩) hL) _) ?_
    dsimp only
    congr 2
    simp only [List.length_cons, List.length_append]; omega
  obtain ⟨pk1, pk2⟩ := pkA k (by omega)
  have start : ∀ K : Int, (K = 1 ∨ K = 2) → MI n h K P D B Rest l 0 (((l1.set (wp 16 1 h 0) K).set (wp 16 1 h 1) P).set (wp 16 1 h 2) D) ∧ OK (n : Int) 16 1 1 (l1.set (wp 16 1 h 0) K) ∧ OK (n : Int) 16 1 1 ((l1.set (wp 16 1 h 0) K).set (wp 16 1 h 1) P) := fun K hK => by
    have hO2 := hO1.set (wp 16 1 h 0) K (by omega) (by omega)
    have hO3 := hO2.set (wp 16 1 h 1) P (by omega) (by omega)
    have hO4 := hO3.set (wp 16 1 h 2) D (by omega) (by omega)
    have wd : ∀ c w : Int, 0 ≤ c ∧ c < (n : Int) → 0 ≤ w ∧ w < 16 → word 16 1 (((l1.set (wp 16 1 h 0) K).set (wp 16 1 h 1) P).set (wp 16 1 h 2) D) c w = if h = c ∧ 2 = w then D else if h = c ∧ 1 = w then P else if h = c ∧ 0 = w then K else word 16 1 l1 c w := fun c w hc hw2 => by
      rw [word_set hmay hO3.len hh hc z2 hw2, word_set hmay hO2.len hh hc z1 hw2, word_set hmay hO1.len hh hc zz hw2]
    have cw : ∀ r L, r + 2 < 24 → Chain (n : Int) 16 1 l1 r L → Chain (n : Int) 16 1 (((l1.set (wp 16 1 h 0) K).set (wp 16 1 h 1) P).set (wp 16 1 h 2) D) r L := fun r L hr hc =>
      Chain.word hmay hO3.len hr hh z2 (Or.inl (by decide)) D (Chain.word hmay hO2.len hr hh z1 (Or.inl (by decide)) P (Chain.word hmay hO1.len hr hh zz (Or.inl (by decide)) K hc))
    refine ⟨⟨hO4, by rw [List.drop_zero]; exact cw 0 _ (by decide) hL1, cw 3 _ (by decide) hM1, ?_, ?_, ?_, ?_, fun t ht => by omega, fun t ht => by omega, fun c w hc hw2 h5 hch hcB => ?_, fun i h1 h2 => ?_⟩, hO2, hO3⟩
    · rw [wd h 0 hh zz, if_neg (by omega), if_neg (by omega), if_pos ⟨rfl, rfl⟩]
    · rw [wd h 1 hh z1, if_neg (by omega), if_pos ⟨rfl, rfl⟩]
    · rw [wd h 2 hh z2, if_pos ⟨rfl, rfl⟩]
    · rw [wd h 3 hh z3, if_neg (by omega), if_neg (by omega), if_neg (by omega)]; exact hz 3 z3
    · rw [wd c w hc hw2, if_neg (fun q => hch q.1.symm), if_neg (fun q => hch q.1.symm), if_neg (fun q => hch q.1.symm)]; exact hw c w hc hw2 hch h5
    · rw [reg_word hmay hO3.len hh z2 h1, reg_word hmay hO2.len hh z1 h1, reg_word hmay hO1.len hh zz h1]; exact hg i h1 h2
  have em : ∀ K m0, tag_Pack.f k K 0 0 0 0 0 0 = some (K, 0) → obj_mark.f k l1 m0 (n : Int) 16 1 1 h K 0 0 0 0 0 0 = some (up m0, l1.set (wp 16 1 h 0) K) := fun K m0 hp => by
    unfold obj_mark.f
    refine Eq.trans (bind_is hp _) ?_
    dsimp only
    rw [if_pos rfl]
    exact bind_is (SetWord_at hO1 m0 hh zz K) _
  have fin : ∀ K l' m', (K = if B = [] then 1 else 2) → obj_Make.f k l m (n : Int) 16 1 1 P D = some (h + 1, 0, m', l') → MI n h K P D B Rest l B.length l' → ∃ m' l', obj_Make.f k l m (n : Int) 16 1 1 P D = some (h + 1, 0, m', l') ∧ OK (n : Int) 16 1 1 l' ∧ Chain (n : Int) 16 1 l' 0 Rest ∧ Chain (n : Int) 16 1 l' 3 [] ∧ Obj n l' h B P D ∧ word 16 1 l' h 3 = 0 ∧ word 16 1 l' h 0 = (if B = [] then 1 else 2) ∧
      (∀ c w : Int, 0 ≤ c ∧ c < (n : Int) → 0 ≤ w ∧ w < 16 → w ≠ 5 → c ≠ h → c ∉ B → word 16 1 l' c w = word 16 1 l c w) ∧ (∀ i : Nat, i < 24 → 2 < i → rd l' (i : Int) = rd l (i : Int)) := fun K l' m' hK e I => by
    refine ⟨m', l', e, I.ok, by have := I.pool; rw [List.drop_length, List.nil_append] at this; exact this, I.none3, ⟨hf, hB, hnd2, hmem, by rw [I.tag, hK]; by_cases q : B = [] <;> simp [q], I.p1, I.p2, I.leaf, fun x hx => ?_⟩, I.p3, by rw [I.tag, hK], I.same, I.regs⟩
    obtain ⟨t, ht, rfl⟩ := List.getElem_of_mem hx
    have := I.ltag t ht
    rw [rd_nat' B t ht] at this
    exact this
  have pre : ∀ r, (if 1 + (B.length : Int) > 1 then
      (obj_mark.f k l1 m1 (n : Int) 16 1 1 h 2 0 0 0 0 0 0).bind fun t2703 => (ground_Ground_SetWord.f t2703.2 t2703.1 (n : Int) 16 1 1 h 1 (P % 4294967296)).bind fun t2706 => (ground_Ground_SetWord.f t2706.2.2 t2706.2.1 (n : Int) 16 1 1 h 2 (D % 4294967296)).bind fun t2709 => (obj_Make.lo0 k (n : Int) 16 1 1 (1 + (B.length : Int), 0) (h, true, m1, l1) 0 t2709.2.2 t2709.2.1).bind fun o2712 => some (wrap64 (h + 1), 0, o2712.2, o2712.1)
      else (obj_mark.f k l1 m1 (n : Int) 16 1 1 h 1 0 0 0 0 0 0).bind fun t2703 => (ground_Ground_SetWord.f t2703.2 t2703.1 (n : Int) 16 1 1 h 1 (P % 4294967296)).bind fun t2706 => (ground_Ground_SetWord.f t2706.2.2 t2706.2.1 (n : Int) 16 1 1 h 2 (D % 4294967296)).bind fun t2709 => (obj_Make.lo1 k (n : Int) 16 1 1 (1 + (B.length : Int), 0) (h, true, m1, l1) 0 t2709.2.2 t2709.2.1).bind fun o2749 => some (wrap64 (h + 1), 0, o2749.2, o2749.1)) = some r → obj_Make.f k l m (n : Int) 16 1 1 P D = some r := fun r e => by
    unfold obj_Make.f
    refine Eq.trans (bind_is (conf_eq l m _ _ _ _) _) ?_
    refine Eq.trans (bind_is (shape_ok hf k (by omega)) _) ?_
    rw [← hB]
    dsimp only
    rw [if_pos rfl]
    refine Eq.trans (bind_is el _) ?_
    dsimp only
    rw [if_neg (by omega)]
    refine Eq.trans (bind_is e1 _) ?_
    exact e
  by_cases hb : B = []
  · obtain ⟨I0, hO2, hO3⟩ := start 1 (Or.inl rfl)
    have hb0 : B.length = 0 := by rw [hb]; rfl
    refine fin 1 _ (up (up (up m1))) (by rw [if_pos hb]) (pre _ ?_) (by rw [hb0]; exact I0)
    rw [if_neg (by omega)]
    refine Eq.trans (bind_is (em 1 m1 pk1) _) ?_
    dsimp only
    rw [show P % 4294967296 = P by omega, show D % 4294967296 = D by omega]
    refine Eq.trans (bind_is (SetWord_at hO2 _ hh z1 P) _) ?_
    refine Eq.trans (bind_is (SetWord_at hO3 _ hh z2 D) _) ?_
    obtain ⟨k, rfl⟩ : ∃ q, k = q + 1 := ⟨k - 1, by omega⟩
    refine Eq.trans (bind_is (show obj_Make.lo1 (k + 1) (n : Int) 16 1 1 (1 + (B.length : Int), 0) _ 0 _ _ = some (_, _) by rw [obj_Make.lo1, if_neg (by rw [hb0]; unfold wrap64; decide)]) _) ?_
    rw [wrap64_id (n := h + 1) (by omega) (by omega)]
    rfl
  · obtain ⟨I0, hO2, hO3⟩ := start 2 (Or.inr rfl)
    have hb0 : 0 < B.length := List.length_pos_iff.2 hb
    obtain ⟨l', m', e, I⟩ := make_lo (ws := l1) hs hnd2 hmem hB8 (by omega) m1 B.length k 0 _ (up (up (up m1))) I0 (by omega) (by omega)
    have e' : obj_Make.lo0 k (n : Int) 16 1 1 (1 + (B.length : Int), 0) (h, true, m1, l1) 0 (((l1.set (wp 16 1 h 0) 2).set (wp 16 1 h 1) P).set (wp 16 1 h 2) D) (up (up (up m1))) = some (l', m') := e
    refine fin 2 l' m' (by rw [if_neg hb]) (pre _ ?_) I
    rw [if_pos (by omega)]
    refine Eq.trans (bind_is (em 2 m1 pk2) _) ?_
    dsimp only
    rw [show P % 4294967296 = P by omega, show D % 4294967296 = D by omega]
    refine Eq.trans (bind_is (SetWord_at hO2 _ hh z1 P) _) ?_
    refine Eq.trans (bind_is (SetWord_at hO3 _ hh z2 D) _) ?_
    refine Eq.trans (bind_is e' _) ?_
    rw [wrap64_id (n := h + 1) (by omega) (by omega)]
/-- An object that does not fit, or for which there are too few blocks, is not made. -/
theorem make_not {n : Nat} (hs : n ≤ 60) {l L : List Int} {P D : Int} (hO : OK (n : Int) 16 1 1 l) (hL : Chain (n : Int) 16 1 l 0 L) (hf : ¬ (fitv P D ∧ 1 + leavesv 16 (P + D) ≤ (L.length : Int))) (m : Int) (k : Nat) (hk : 900 ≤ k) :
    ∃ e m', obj_Make.f k l m (n : Int) 16 1 1 P D = some (0, e, m', l) ∧ e ≠ 0 := by
  by_cases h : fitv P D
  · refine ⟨4, IntKind.u64.wrap (m + 1), ?_, by decide⟩
    unfold obj_Make.f
    refine Eq.trans (bind_is (conf_eq l m _ _ _ _) _) ?_
    refine Eq.trans (bind_is (shape_ok h k (by omega)) _) ?_
    dsimp only
    rw [if_pos rfl]
    have el : pool_Len.f l m (n : Int) 16 1 1 = some ((L.length : Int), IntKind.u64.wrap (m + 1)) := by
      unfold pool_Len.f
      exact bind_is (len_chain hO m (Or.inl ⟨rfl, rfl⟩) hL) _
    refine Eq.trans (bind_is el _) ?_
    dsimp only
    rw [if_pos (Int.not_le.1 (fun q => hf ⟨h, q⟩))]
  · refine ⟨3, m, ?_, by decide⟩
    unfold obj_Make.f
    refine Eq.trans (bind_is (conf_eq l m _ _ _ _) _) ?_
    refine Eq.trans (bind_is (shape_not h k (by omega)) _) ?_
    dsimp only
    rw [if_neg (by decide)]
/-- Whether or not: what a make does to a pool. -/
theorem make_any {n : Nat} (hs : n ≤ 60) {l L : List Int} (P D : Int) (hO : OK (n : Int) 16 1 1 l) (hL : Chain (n : Int) 16 1 l 0 L) (hM : Chain (n : Int) 16 1 l 3 []) (m : Int) (k : Nat) (hk : 900 ≤ k) :
    (∃ e m', obj_Make.f k l m (n : Int) 16 1 1 P D = some (0, e, m', l) ∧ e ≠ 0) ∨
    (∃ h B Rest m' l', L = h :: (B ++ Rest) ∧ obj_Make.f k l m (n : Int) 16 1 1 P D = some (h + 1, 0, m', l') ∧ OK (n : Int) 16 1 1 l' ∧ Chain (n : Int) 16 1 l' 0 Rest ∧ Chain (n : Int) 16 1 l' 3 [] ∧ Obj n l' h B P D ∧ word 16 1 l' h 3 = 0 ∧ word 16 1 l' h 0 = (if B = [] then 1 else 2) ∧
      (∀ c w : Int, 0 ≤ c ∧ c < (n : Int) → 0 ≤ w ∧ w < 16 → w ≠ 5 → c ≠ h → c ∉ B → word 16 1 l' c w = word 16 1 l c w) ∧ (∀ i : Nat, i < 24 → 2 < i → rd l' (i : Int) = rd l (i : Int))) := by
  by_cases hf : fitv P D ∧ 1 + leavesv 16 (P + D) ≤ (L.length : Int)
  · right
    have hf' := hf.1
    unfold fitv at hf'
    have hlv := leaves16 (f := P + D) (by omega) (by omega)
    cases L with
    | nil => exact absurd hf.2 (by simp; omega)
    | cons h T =>
      have hT : leavesv 16 (P + D) ≤ (T.length : Int) := by have := hf.2; simp only [List.length_cons] at this; omega
      have e : T.take (leavesv 16 (P + D)).toNat ++ T.drop (leavesv 16 (P + D)).toNat = T := List.take_append_drop _ _
      have hB : ((T.take (leavesv 16 (P + D)).toNat).length : Int) = leavesv 16 (P + D) := by rw [List.length_take]; omega
      generalize T.take (leavesv 16 (P + D)).toNat = B at *
      generalize T.drop (leavesv 16 (P + D)).toNat = Rest at *
      subst e
      obtain ⟨m', l', hr⟩ := make_ok hs hO hL hM hf.1 hB m k hk
      exact ⟨h, B, Rest, m', l', rfl, hr⟩
  · left
    exact make_not hs hO hL hf m k hk
theorem is_obj {n : Nat} (hs : n ≤ 60) {l : List Int} {h : Int} {B : List Int} {P D : Int} (hO : OK (n : Int) 16 1 1 l) (o : Obj n l h B P D) (m : Int) : obj_Is.f l m (n : Int) 16 1 1 (h + 1) = some (true, up m) := by
  have hh := o.mem h (by simp)
  have hin : obj_in.f l m (n : Int) 16 1 1 (h + 1) = some true := by
    unfold obj_in.f
    rw [if_pos (by omega)]
    refine Eq.trans (bind_is (conf_eq l m _ _ _ _) _) ?_
    rw [decide_eq_true (by show h + 1 ≤ (n : Int); omega)]
  have ht := o.tag
  have hu := hO.u32 (wp 16 1 h 0)
  obtain ⟨a, b, c, d, e, f, eu⟩ := unk (word 16 1 l h 0) hu
  unfold obj_Is.f
  refine Eq.trans (bind_is hin _) ?_
  rw [if_pos rfl, wrap64_id (n := h + 1 - 1) (by omega) (by omega), show h + 1 - 1 = h by omega]
  refine Eq.trans (bind_is (Word_at hO m hh zz) _) ?_
  refine Eq.trans (bind_is eu _) ?_
  dsimp only
  rw [ht]
  have hk : obj_isHead.f (if B = [] then (1 : Int) else 2) = some true := by
    unfold obj_isHead.f
    by_cases hb : B = []
    · rw [if_pos hb, if_pos (by decide)]
    · rw [if_neg hb, if_neg (by decide)]; rfl
  exact bind_is hk _
theorem SeeWord_at {N W R K : Int} {l : List Int} (h : OK N W R K l) (m : Int) {b w : Int} (hb : 0 ≤ b ∧ b < N) (hw : 0 ≤ w ∧ w < W) : ground_Ground_SeeWord.f l m N W R K b w = some (word W R l b w) := by
  unfold ground_Ground_SeeWord.f ground_Ground_all.f
  simp only [Option.bind_some]
  rw [word_eq l m N W R K b w h.may, wp_eq h.may hb hw]
  simp only [Option.bind_some]
  rw [speek_eq l m _ (fun n hn => by rw [h.len]; cases hn; exact (wp_lt h.may hb hw).1)]
  rfl
/-- Where an object's field lies. -/
def fblock (h : Int) (B : List Int) (i : Int) : Int := if B = [] then h else rd B (i / 15)
def fword (B : List Int) (i : Int) : Int := if B = [] then 8 + i else 1 + i % 15
def fieldv (l : List Int) (h : Int) (B : List Int) (i : Int) : Int := word 16 1 l (fblock h B i) (fword B i)
theorem Obj.leafs {n : Nat} {l : List Int} {h : Int} {B : List Int} {P D : Int} (o : Obj n l h B P D) : (B = [] → P + D ≤ 8) ∧ (B ≠ [] → 8 < P + D ∧ P + D ≤ (B.length : Int) * 15) := by
  have hf := o.fits
  unfold fitv at hf
  have hs := o.size
  have h1 := leaves16 (f := P + D) (by omega) hf.2.2
  constructor
  · intro e
    rw [e] at hs
    simp only [List.length_nil] at hs
    omega
  · intro e
    have := List.length_pos_iff.2 e
    omega
theorem field_ok {n : Nat} {l : List Int} {h : Int} {B : List Int} {P D : Int} (o : Obj n l h B P D) {i : Int} (h0 : 0 ≤ i) (h1 : i < P + D) : fblock h B i ∈ h :: B ∧ 0 ≤ fword B i ∧ fword B i < 16 ∧ (fblock h B i = h → 8 ≤ fword B i) ∧ 1 ≤ fword B i ∧ (fword B i = 5 → fblock h B i ∈ B) := by
  have hl := o.leafs
  unfold fblock fword
  by_cases e : B = []
  · have := hl.1 e
    rw [if_pos e, if_pos e]
    refine ⟨by simp, by omega, by omega, fun _ => by omega, by omega, fun q => by omega⟩
  · have h2 := hl.2 e
    rw [if_neg e, if_neg e]
    obtain ⟨t, ht⟩ : ∃ t : Nat, (t : Int) = i / 15 := ⟨(i / 15).toNat, by omega⟩
    have hm : rd B (i / 15) ∈ B := by rw [← ht]; exact rd_mem B t (by omega)
    exact ⟨List.mem_cons_of_mem h hm, by omega, by omega, fun q => absurd (q ▸ hm) (List.nodup_cons.1 o.nd).1, by omega, fun _ => hm⟩
theorem place16 {n : Nat} {l : List Int} {h : Int} {B : List Int} {P D : Int} (o : Obj n l h B P D) {i : Int} (h0 : 0 ≤ i) (h1 : i < P + D) (k : Nat) (hk : 10 ≤ k) : shape_Place.f k 16 (P + D) i = some (if B = [] then ((-1 : Int), 8 + i, (0 : Int)) else (i / 15, 1 + i % 15, 0)) := by
  obtain ⟨k, rfl⟩ : ∃ q, k = q + 2 := ⟨k - 2, by omega⟩
  have hf := o.fits
  unfold fitv at hf
  have hs := o.size
  have hw : wrongv 16 (P + D) = 0 := by unfold wrongv; rw [if_pos (by decide), most16, if_pos (by omega)]
  rw [place_eq]
  unfold placev
  rw [if_pos hw, if_neg (by omega), ← hs]
  by_cases e : B = []
  · rw [if_pos (by rw [e]; rfl), if_pos e]
  · have := List.length_pos_iff.2 e
    rw [if_neg (by omega), if_neg e]; rfl
theorem Obj.in_at {n : Nat} (hs : n ≤ 60) {l : List Int} {h : Int} {B : List Int} {P D : Int} (o : Obj n l h B P D) (m : Int) : obj_in.f l m (n : Int) 16 1 1 (h + 1) = some true := by
  have hh := o.mem h (by simp)
  unfold obj_in.f
  rw [if_pos (by omega)]
  refine Eq.trans (bind_is (conf_eq l m _ _ _ _) _) ?_
  rw [decide_eq_true (by show h + 1 ≤ (n : Int); omega)]
theorem Obj.head {n : Nat} {l : List Int} {h : Int} {B : List Int} {P D : Int} (hO : OK (n : Int) 16 1 1 l) (o : Obj n l h B P D) : ∃ K a b c d e f, tag_Unpack.f (word 16 1 l h 0) = some (K, a, b, c, d, e, f) ∧ obj_isHead.f K = some true ∧ K ≠ 0 := by
  obtain ⟨a, b, c, d, e, f, eu⟩ := unk (word 16 1 l h 0) (hO.u32 (wp 16 1 h 0))
  refine ⟨_, a, b, c, d, e, f, eu, ?_, ?_⟩
  · rw [o.tag]
    unfold obj_isHead.f
    by_cases hb : B = []
    · rw [if_pos hb, if_pos (by decide)]
    · rw [if_neg hb, if_neg (by decide)]; rfl
  · rw [o.tag]
    by_cases hb : B = []
    · rw [if_pos hb]; decide
    · rw [if_neg hb]; decide
/-- A field as it is seen. -/
theorem look_at {n : Nat} (hs : n ≤ 60) {l : List Int} {h : Int} {B : List Int} {P D : Int} (hO : OK (n : Int) 16 1 1 l) (o : Obj n l h B P D) (m : Int) {i : Int} (h0 : 0 ≤ i) (h1 : i < P + D) (k : Nat) (hk : 10 ≤ k) : obj_look.f k l m (n : Int) 16 1 1 (h + 1) (P + D) i = some (fieldv l h B i) := by
  have hh := o.mem h (by simp)
  have hl := o.leafs
  have hp := field_ok o h0 h1
  unfold obj_look.f
  refine Eq.trans (bind_is (conf_eq l m _ _ _ _) _) ?_
  refine Eq.trans (bind_is (place16 o h0 h1 k hk) _) ?_
  rw [wrap64_id (n := h + 1 - 1) (by omega) (by omega), show h + 1 - 1 = h by omega]
  by_cases e : B = []
  · have := hl.1 e
    rw [if_pos e]
    dsimp only
    rw [if_pos rfl, if_pos (by decide)]
    refine Eq.trans (bind_is (SeeWord_at hO m hh (by omega)) _) ?_
    unfold fieldv fblock fword
    rw [if_pos e, if_pos e]
  · have h2 := hl.2 e
    have h8 := o.few
    rw [if_neg e]
    dsimp only
    rw [if_pos rfl, if_neg (by omega), wrap64_id (n := 8 + i / 15) (by omega) (by omega)]
    refine Eq.trans (bind_is (SeeWord_at hO m hh (by omega)) _) ?_
    obtain ⟨t, ht⟩ : ∃ t : Nat, (t : Int) = i / 15 := ⟨(i / 15).toNat, by omega⟩
    have hm : rd B (t : Int) ∈ B := rd_mem B t (by omega)
    have hb := o.mem _ (List.mem_cons_of_mem h hm)
    rw [← ht, o.leaf t (by omega), wrap64_id (n := rd B (t : Int) + 1) (by omega) (by omega), wrap64_id (n := rd B (t : Int) + 1 - 1) (by omega) (by omega), show rd B (t : Int) + 1 - 1 = rd B (t : Int) by omega]
    refine Eq.trans (bind_is (SeeWord_at hO m hb (by omega)) _) ?_
    unfold fieldv fblock fword
    rw [if_neg e, if_neg e, ht]
def ptrsv (l : List Int) (h : Int) (B : List Int) (j : Nat) : List Int := (List.range j).map fun i : Nat => fieldv l h B (i : Int)
def datav (l : List Int) (h : Int) (B : List Int) (P : Int) (j : Nat) : List Int := (List.range j).map fun i : Nat => fieldv l h B (P + (i : Int))
theorem ptrsv_len (l : List Int) (h : Int) (B : List Int) (j : Nat) : (ptrsv l h B j).length = j := by unfold ptrsv; simp
theorem datav_len (l : List Int) (h : Int) (B : List Int) (P : Int) (j : Nat) : (datav l h B P j).length = j := by unfold datav; simp
theorem ptrsv_succ (l : List Int) (h : Int) (B : List Int) (j : Nat) : ptrsv l h B (j + 1) = ptrsv l h B j ++ [fieldv l h B (j : Int)] := by unfold ptrsv; rw [List.range_succ, List.map_append]; rfl
theorem datav_succ (l : List Int) (h : Int) (B : List Int) (P : Int) (j : Nat) : datav l h B P (j + 1) = datav l h B P j ++ [fieldv l h B (P + (j : Int))] := by unfold datav; rw [List.range_succ, List.map_append]; rfl
theorem see_lo0 {n : Nat} (hs : n ≤ 60) {l : List Int} {h : Int} {B : List Int} {P D : Int} (hO : OK (n : Int) 16 1 1 l) (o : Obj n l h B P D) (m : Int) : ∀ (d k j : Nat), j + d = P.toNat → d + 20 < k → obj_See.lo0 k l m (n : Int) 16 1 1 (h + 1) P D (j : Int) (ptrsv l h B j) = some (ptrsv l h B P.toNat) := by
  have hf := o.fits
  unfold fitv at hf
  intro d
  induction d with
  | zero =>
    intro k j hj hk
    obtain ⟨k, rfl⟩ : ∃ q, k = q + 1 := ⟨k - 1, by omega⟩
    obtain rfl : j = P.toNat := by omega
    rw [obj_See.lo0, wrap64_id (n := P) (by omega) (by omega), if_neg (by omega)]
  | succ d ih =>
    intro k j hj hk
    obtain ⟨k, rfl⟩ : ∃ q, k = q + 1 := ⟨k - 1, by omega⟩
    have hv := hO.u32 (wp 16 1 (fblock h B (j : Int)) (fword B (j : Int)))
    rw [obj_See.lo0, wrap64_id (n := P) (by omega) (by omega), wrap64_id (n := D) (by omega) (by omega), wrap64_id (n := P + D) (by omega) (by omega), if_pos (by omega)]
    refine Eq.trans (bind_is (look_at hs hO o m (by omega) (by omega) k (by omega)) _) ?_
    rw [if_pos (by rw [ptrsv_len]; omega)]
    refine Eq.trans (bind_is rfl _) ?_
    rw [next_i j (by omega), wrap64_id (n := fieldv l h B (j : Int)) (show _ ≤ rd l _ by have := hv.1; omega) (show rd l _ ≤ _ by have := hv.2; omega), ← ptrsv_succ]
    exact ih k (j + 1) (by omega) (by omega)
theorem see_lo1 {n : Nat} (hs : n ≤ 60) {l : List Int} {h : Int} {B : List Int} {P D : Int} (hO : OK (n : Int) 16 1 1 l) (o : Obj n l h B P D) (m : Int) : ∀ (d k j : Nat), j + d = D.toNat → d + 20 < k → obj_See.lo1 k l m (n : Int) 16 1 1 (h + 1) P D (j : Int) (datav l h B P j) = some (datav l h B P D.toNat) := by
  have hf := o.fits
  unfold fitv at hf
  intro d
  induction d with
  | zero =>
    intro k j hj hk
    obtain ⟨k, rfl⟩ : ∃ q, k = q + 1 := ⟨k - 1, by omega⟩
    obtain rfl : j = D.toNat := by omega
    rw [obj_See.lo1, wrap64_id (n := D) (by omega) (by omega), if_neg (by omega)]
  | succ d ih =>
    intro k j hj hk
    obtain ⟨k, rfl⟩ : ∃ q, k = q + 1 := ⟨k - 1, by omega⟩
    rw [obj_See.lo1, wrap64_id (n := P) (by omega) (by omega), wrap64_id (n := D) (by omega) (by omega), wrap64_id (n := P + D) (by omega) (by omega), wrap64_id (n := P + (j : Int)) (by omega) (by omega), if_pos (by omega)]
    refine Eq.trans (bind_is (look_at hs hO o m (by omega) (by omega) k (by omega)) _) ?_
    rw [if_pos (by rw [datav_len]; omega)]
    refine Eq.trans (bind_is rfl _) ?_
    rw [next_i j (by omega), ← datav_succ]
    exact ih k (j + 1) (by omega) (by omega)
/-- An object as it is seen. -/
theorem see_at {n : Nat} (hs : n ≤ 60) {l : List Int} {h : Int} {B : List Int} {P D : Int} (hO : OK (n : Int) 16 1 1 l) (o : Obj n l h B P D) (m : Int) (k : Nat) (hk : 200 ≤ k) : obj_See.f k l m (n : Int) 16 1 1 (h + 1) = some (true, ptrsv l h B P.toNat, datav l h B P D.toNat) := by
  have hh := o.mem h (by simp)
  have hf := o.fits
  have hf' := o.fits
  unfold fitv at hf'
  obtain ⟨K, a, b, c, d, e, f, eu, eh, _⟩ := o.head hO
  unfold obj_See.f
  refine Eq.trans (bind_is (o.in_at hs m) _) ?_
  rw [if_pos rfl, wrap64_id (n := h + 1 - 1) (by omega) (by omega), show h + 1 - 1 = h by omega]
  refine Eq.trans (bind_is (SeeWord_at hO m hh zz) _) ?_
  refine Eq.trans (bind_is eu _) ?_
  refine Eq.trans (bind_is eh _) ?_
  rw [if_pos rfl]
  refine Eq.trans (bind_is (SeeWord_at hO m hh z1) _) ?_
  refine Eq.trans (bind_is (SeeWord_at hO m hh z2) _) ?_
  refine Eq.trans (bind_is (conf_eq l m _ _ _ _) _) ?_
  rw [o.p1, o.p2, wrap64_id (n := P) (by omega) (by omega), wrap64_id (n := D) (by omega) (by omega)]
  refine Eq.trans (bind_is (shape_ok hf k (by omega)) _) ?_
  rw [if_pos rfl]
  have e0 : obj_See.lo0 k l m (n : Int) 16 1 1 (h + 1) P D 0 [] = some (ptrsv l h B P.toNat) := see_lo0 hs hO o m P.toNat k 0 (by omega) (by omega)
  have e1 : obj_See.lo1 k l m (n : Int) 16 1 1 (h + 1) P D 0 [] = some (datav l h B P D.toNat) := see_lo1 hs hO o m D.toNat k 0 (by omega) (by omega)
  refine Eq.trans (bind_is e0 _) ?_
  exact bind_is e1 _
/-- What is seen is the same where the words are the same. -/
theorem field_same {n : Nat} {l l' : List Int} {h : Int} {B : List Int} {P D : Int} (o : Obj n l h B P D) (hw : ∀ c w : Int, c ∈ h :: B → 0 ≤ w ∧ w < 16 → (c = h → 8 ≤ w) → word 16 1 l' c w = word 16 1 l c w) {i : Int} (h0 : 0 ≤ i) (h1 : i < P + D) : fieldv l' h B i = fieldv l h B i := by
  obtain ⟨a, b, c, d, _⟩ := field_ok o h0 h1
  exact hw _ _ a ⟨b, c⟩ d
theorem ptrsv_same {n : Nat} {l l' : List Int} {h : Int} {B : List Int} {P D : Int} (o : Obj n l h B P D) (hw : ∀ i : Int, 0 ≤ i → i < P → fieldv l' h B i = fieldv l h B i) : ptrsv l' h B P.toNat = ptrsv l h B P.toNat := by
  unfold ptrsv
  exact List.map_congr_left fun i hi => hw _ (by omega) (by have := List.mem_range.1 hi; omega)
theorem datav_same {n : Nat} {l l' : List Int} {h : Int} {B : List Int} {P D : Int} (o : Obj n l h B P D) (hw : ∀ i : Int, P ≤ i → i < P + D → fieldv l' h B i = fieldv l h B i) : datav l' h B P D.toNat = datav l h B P D.toNat := by
  unfold datav
  exact List.map_congr_left fun i hi => hw _ (by omega) (by have := List.mem_range.1 hi; omega)
/-- An object's head: its tag, and how many fields there are. -/
structure HD (n : Nat) (l : List Int) (h v P D : Int) : Prop where
  fits : fitv P D
  size : v = leavesv 16 (P + D)
  mem : 0 ≤ h ∧ h < (n : Int)
  tag : word 16 1 l h 0 % 4 = 1 ∨ word 16 1 l h 0 % 4 = 2
  p1 : word 16 1 l h 1 = P
  p2 : word 16 1 l h 2 = D
theorem Obj.hd {n : Nat} {l : List Int} {h : Int} {B : List Int} {P D : Int} (o : Obj n l h B P D) : HD n l h (B.length : Int) P D :=
  ⟨o.fits, o.size, o.mem h (by simp), by rw [o.tag]; by_cases e : B = [] <;> simp [e], o.p1, o.p2⟩
theorem HD.frame {n : Nat} {l l' : List Int} {h v P D : Int} (o : HD n l h v P D) (hw : ∀ w : Int, 0 ≤ w ∧ w < 3 → word 16 1 l' h w = word 16 1 l h w) : HD n l' h v P D :=
  ⟨o.fits, o.size, o.mem, by rw [hw 0 (by decide)]; exact o.tag, by rw [hw 1 (by decide)]; exact o.p1, by rw [hw 2 (by decide)]; exact o.p2⟩
theorem in_ref {n : Nat} (hs : n ≤ 60) {h : Int} (hh : 0 ≤ h ∧ h < (n : Int)) (l : List Int) (m : Int) : obj_in.f l m (n : Int) 16 1 1 (h + 1) = some true := by
  unfold obj_in.f
  rw [if_pos (by omega)]
  refine Eq.trans (bind_is (conf_eq l m _ _ _ _) _) ?_
  rw [decide_eq_true (by show h + 1 ≤ (n : Int); omega)]
theorem HD.is {n : Nat} (hs : n ≤ 60) {l : List Int} {h v P D : Int} (hO : OK (n : Int) 16 1 1 l) (o : HD n l h v P D) (m : Int) : obj_Is.f l m (n : Int) 16 1 1 (h + 1) = some (true, up m) := by
  have hh := o.mem
  obtain ⟨a, b, c, d, e, f, eu⟩ := unk (word 16 1 l h 0) (hO.u32 (wp 16 1 h 0))
  unfold obj_Is.f
  refine Eq.trans (bind_is (in_ref hs hh l m) _) ?_
  rw [if_pos rfl, wrap64_id (n := h + 1 - 1) (by omega) (by omega), show h + 1 - 1 = h by omega]
  refine Eq.trans (bind_is (Word_at hO m hh zz) _) ?_
  refine Eq.trans (bind_is eu _) ?_
  dsimp only
  have hk : obj_isHead.f (word 16 1 l h 0 % 4) = some true := by
    unfold obj_isHead.f
    rcases o.tag with q | q
    · rw [q, if_pos (by decide)]
    · rw [q, if_neg (by decide)]; rfl
  exact bind_is hk _
theorem is_none {n : Nat} (hs : n ≤ 60) {l : List Int} {h : Int} (hh : 0 ≤ h ∧ h < (n : Int)) (hO : OK (n : Int) 16 1 1 l) (h0 : word 16 1 l h 0 = 0) (m : Int) : obj_Is.f l m (n : Int) 16 1 1 (h + 1) = some (false, up m) := by
  obtain ⟨a, b, c, d, e, f, eu⟩ := unk (word 16 1 l h 0) (hO.u32 (wp 16 1 h 0))
  unfold obj_Is.f
  refine Eq.trans (bind_is (in_ref hs hh l m) _) ?_
  rw [if_pos rfl, wrap64_id (n := h + 1 - 1) (by omega) (by omega), show h + 1 - 1 = h by omega]
  refine Eq.trans (bind_is (Word_at hO m hh zz) _) ?_
  refine Eq.trans (bind_is eu _) ?_
  dsimp only
  exact bind_is (show obj_isHead.f (word 16 1 l h 0 % 4) = some false by rw [h0]; unfold obj_isHead.f; rw [if_neg (by decide)]; rfl) _
theorem HD.lens {n : Nat} (hs : n ≤ 60) {l : List Int} {h v P D : Int} (hO : OK (n : Int) 16 1 1 l) (o : HD n l h v P D) (m : Int) : obj_Lens.f l m (n : Int) 16 1 1 (h + 1) = some (P, D, 0, up (up (up m))) := by
  have hh := o.mem
  have hf := o.fits
  unfold fitv at hf
  unfold obj_Lens.f
  refine Eq.trans (bind_is (o.is hs hO m) _) ?_
  dsimp only
  rw [if_pos rfl, wrap64_id (n := h + 1 - 1) (by omega) (by omega), show h + 1 - 1 = h by omega]
  refine Eq.trans (bind_is (Word_at hO _ hh z1) _) ?_
  refine Eq.trans (bind_is (Word_at hO _ hh z2) _) ?_
  rw [o.p1, o.p2, wrap64_id (n := P) (by omega) (by omega), wrap64_id (n := D) (by omega) (by omega)]
  rfl
theorem HD.blocks {n : Nat} (hs : n ≤ 60) {l : List Int} {h v P D : Int} (hO : OK (n : Int) 16 1 1 l) (o : HD n l h v P D) (m : Int) (k : Nat) (hk : 10 ≤ k) : obj_Blocks.f k l m (n : Int) 16 1 1 (h + 1) = some (1 + v, up (up (up m))) := by
  unfold obj_Blocks.f
  refine Eq.trans (bind_is (o.lens hs hO m) _) ?_
  dsimp only
  rw [if_pos rfl]
  refine Eq.trans (bind_is (conf_eq _ _ _ _ _ _) _) ?_
  refine Eq.trans (bind_is (shape_ok o.fits k hk) _) ?_
  rw [← o.size]
theorem HD.few {n : Nat} {l : List Int} {h v P D : Int} (o : HD n l h v P D) : 0 ≤ v ∧ v ≤ 8 := by
  have hf := o.fits
  unfold fitv at hf
  have := leaves16 (f := P + D) (by omega) hf.2.2
  have := o.size
  omega
theorem ufield {n : Nat} {l : List Int} (hO : OK (n : Int) 16 1 1 l) (h : Int) (B : List Int) (i : Int) : 0 ≤ fieldv l h B i ∧ fieldv l h B i < 4294967296 := hO.u32 (wp 16 1 (fblock h B i) (fword B i))
theorem fblock_ok {n : Nat} {l : List Int} {h : Int} {B : List Int} {P D : Int} (o : Obj n l h B P D) {i : Int} (h0 : 0 ≤ i) (h1 : i < P + D) : 0 ≤ fblock h B i ∧ fblock h B i < (n : Int) := o.mem _ (field_ok o h0 h1).1
theorem fword_ok {n : Nat} {l : List Int} {h : Int} {B : List Int} {P D : Int} (o : Obj n l h B P D) {i : Int} (h0 : 0 ≤ i) (h1 : i < P + D) : 0 ≤ fword B i ∧ fword B i < 16 := ⟨(field_ok o h0 h1).2.1, (field_ok o h0 h1).2.2.1⟩
/-- Where a field lies, as the program finds it. -/
theorem fplace_at {n : Nat} (hs : n ≤ 60) {l : List Int} {h : Int} {B : List Int} {P D : Int} (hO : OK (n : Int) 16 1 1 l) (o : Obj n l h B P D) (m : Int) {i : Int} (h0 : 0 ≤ i) (h1 : i < P + D) (k : Nat) (hk : 10 ≤ k) :
    ∃ a b, shape_Place.f k 16 (P + D) i = some (a, b, 0) ∧ ((a < 0 ∧ h = fblock h B i ∧ b = fword B i) ∨ (¬ a < 0 ∧ wrap64 (8 + a) = 8 + a ∧ (0 ≤ 8 + a ∧ 8 + a < 16) ∧ word 16 1 l h (8 + a) = fblock h B i + 1 ∧ b = fword B i)) := by
  have hl := o.leafs
  refine ⟨if B = [] then -1 else i / 15, if B = [] then 8 + i else 1 + i % 15, (place16 o h0 h1 k hk).trans ?_, ?_⟩
  · by_cases e : B = []
    · simp only [if_pos e]
    · simp only [if_neg e]
  · by_cases e : B = []
    · simp only [if_pos e]
      left
      unfold fblock fword
      rw [if_pos e, if_pos e]
      exact ⟨by decide, rfl, rfl⟩
    · simp only [if_neg e]
      right
      have h2 := hl.2 e
      have h8 := o.few
      obtain ⟨t, ht⟩ : ∃ t : Nat, (t : Int) = i / 15 := ⟨(i / 15).toNat, by omega⟩
      unfold fblock fword
      rw [if_neg e, if_neg e, ← ht]
      exact ⟨by omega, wrap64_id (by omega) (by omega), by omega, o.leaf t (by omega), rfl⟩
theorem fieldp_in {n : Nat} (hs : n ≤ 60) {l : List Int} {h : Int} {B : List Int} {P D : Int} (hO : OK (n : Int) 16 1 1 l) (o : Obj n l h B P D) (m : Int) {i : Int} (h0 : 0 ≤ i) (h1 : i < P) (k : Nat) (hk : 10 ≤ k) : ∃ m', obj_field.f k l m (n : Int) 16 1 1 (h + 1) i false = some (fblock h B i, fword B i, 0, m') := by
  have hh := o.mem h (by simp)
  have hf := o.fits
  unfold fitv at hf
  have hb := fblock_ok o h0 (by omega)
  obtain ⟨a, b, ep, hp⟩ := fplace_at hs hO o m h0 (by omega) k hk
  rcases hp with ⟨ha, hq, rfl⟩ | ⟨ha, hw, w8, hq, rfl⟩
  · refine ⟨up (up (up m)), ?_⟩
    unfold obj_field.f
    refine Eq.trans (bind_is (o.hd.lens hs hO m) _) ?_
    dsimp only
    rw [if_pos rfl, if_neg (by decide), if_neg (by omega), if_neg (by omega)]
    refine Eq.trans (bind_is (conf_eq _ _ _ _ _ _) _) ?_
    rw [wrap64_id (n := P + D) (by omega) (by omega), wrap64_id (n := i) (by omega) (by omega)]
    refine Eq.trans (bind_is ep _) ?_
    dsimp only
    rw [if_pos rfl, if_pos ha, wrap64_id (n := h + 1 - 1) (by omega) (by omega), show h + 1 - 1 = h by omega, ← hq]
  · refine ⟨up (up (up (up m))), ?_⟩
    unfold obj_field.f
    refine Eq.trans (bind_is (o.hd.lens hs hO m) _) ?_
    dsimp only
    rw [if_pos rfl, if_neg (by decide), if_neg (by omega), if_neg (by omega)]
    refine Eq.trans (bind_is (conf_eq _ _ _ _ _ _) _) ?_
    rw [wrap64_id (n := P + D) (by omega) (by omega), wrap64_id (n := i) (by omega) (by omega)]
    refine Eq.trans (bind_is ep _) ?_
    dsimp only
    rw [if_pos rfl, if_neg ha, wrap64_id (n := h + 1 - 1) (by omega) (by omega), show h + 1 - 1 = h by omega, hw]
    refine Eq.trans (bind_is (Word_at hO _ hh w8) _) ?_
    dsimp only
    rw [hq, wrap64_id (n := fblock h B i + 1) (by omega) (by omega), if_neg (by omega), wrap64_id (n := fblock h B i + 1 - 1) (by omega) (by omega), show fblock h B i + 1 - 1 = fblock h B i by omega]
    rfl
theorem fieldd_in {n : Nat} (hs : n ≤ 60) {l : List Int} {h : Int} {B : List Int} {P D : Int} (hO : OK (n : Int) 16 1 1 l) (o : Obj n l h B P D) (m : Int) {i : Int} (h0 : 0 ≤ i) (h1 : i < D) (k : Nat) (hk : 10 ≤ k) : ∃ m', obj_field.f k l m (n : Int) 16 1 1 (h + 1) i true = some (fblock h B (P + i), fword B (P + i), 0, m') := by
  have hh := o.mem h (by simp)
  have hf := o.fits
  unfold fitv at hf
  have hb := fblock_ok o (i := P + i) (by omega) (by omega)
  obtain ⟨a, b, ep, hp⟩ := fplace_at hs hO o m (i := P + i) (by omega) (by omega) k hk
  rcases hp with ⟨ha, hq, rfl⟩ | ⟨ha, hw, w8, hq, rfl⟩
  · refine ⟨up (up (up m)), ?_⟩
    unfold obj_field.f
    refine Eq.trans (bind_is (o.hd.lens hs hO m) _) ?_
    dsimp only
    rw [if_pos rfl, if_pos rfl, if_neg (by omega), if_neg (by omega)]
    refine Eq.trans (bind_is (conf_eq _ _ _ _ _ _) _) ?_
    rw [wrap64_id (n := P + D) (by omega) (by omega), wrap64_id (n := P + i) (by omega) (by omega)]
    refine Eq.trans (bind_is ep _) ?_
    dsimp only
    rw [if_pos rfl, if_pos ha, wrap64_id (n := h + 1 - 1) (by omega) (by omega), show h + 1 - 1 = h by omega, ← hq]
  · refine ⟨up (up (up (up m))), ?_⟩
    unfold obj_field.f
    refine Eq.trans (bind_is (o.hd.lens hs hO m) _) ?_
    dsimp only
    rw [if_pos rfl, if_pos rfl, if_neg (by omega), if_neg (by omega)]
    refine Eq.trans (bind_is (conf_eq _ _ _ _ _ _) _) ?_
    rw [wrap64_id (n := P + D) (by omega) (by omega), wrap64_id (n := P + i) (by omega) (by omega)]
    refine Eq.trans (bind_is ep _) ?_
    dsimp only
    rw [if_pos rfl, if_neg ha, wrap64_id (n := h + 1 - 1) (by omega) (by omega), show h + 1 - 1 = h by omega, hw]
    refine Eq.trans (bind_is (Word_at hO _ hh w8) _) ?_
    dsimp only
    rw [hq, wrap64_id (n := fblock h B (P + i) + 1) (by omega) (by omega), if_neg (by omega), wrap64_id (n := fblock h B (P + i) + 1 - 1) (by omega) (by omega), show fblock h B (P + i) + 1 - 1 = fblock h B (P + i) by omega]
    rfl
theorem field_out {n : Nat} (hs : n ≤ 60) {l : List Int} {h : Int} {B : List Int} {P D : Int} (hO : OK (n : Int) 16 1 1 l) (o : Obj n l h B P D) (m : Int) {i : Int} (wd : Bool) (hi : ¬ (0 ≤ i ∧ i < if wd = true then D else P)) (k : Nat) : obj_field.f k l m (n : Int) 16 1 1 (h + 1) i wd = some (0, 0, 7, up (up (up m))) := by
  unfold obj_field.f
  refine Eq.trans (bind_is (o.hd.lens hs hO m) _) ?_
  dsimp only
  rw [if_pos rfl]
  cases wd with
  | false =>
    rw [if_neg (by decide)]
    rw [if_neg (by decide)] at hi
    by_cases e : i < 0
    · rw [if_pos e]
    · rw [if_neg e, if_pos (by omega)]
  | true =>
    rw [if_pos rfl]
    rw [if_pos rfl] at hi
    by_cases e : i < 0
    · rw [if_pos e]
    · rw [if_neg e, if_pos (by omega)]
theorem SetData_at {n : Nat} (hs : n ≤ 60) {l : List Int} {h : Int} {B : List Int} {P D : Int} (hO : OK (n : Int) 16 1 1 l) (o : Obj n l h B P D) (m : Int) {i v : Int} (k : Nat) (hk : 10 ≤ k) :
    ∃ m', obj_SetData.f k l m (n : Int) 16 1 1 (h + 1) i v = some (if 0 ≤ i ∧ i < D then (0, m', l.set (wp 16 1 (fblock h B (P + i)) (fword B (P + i))) v) else (7, m', l)) := by
  have hf := o.fits
  unfold fitv at hf
  by_cases e : 0 ≤ i ∧ i < D
  · obtain ⟨m1, e1⟩ := fieldd_in hs hO o m e.1 e.2 k hk
    refine ⟨up m1, ?_⟩
    unfold obj_SetData.f
    refine Eq.trans (bind_is e1 _) ?_
    dsimp only
    rw [if_pos rfl, if_pos e]
    exact bind_is (SetWord_at hO m1 (fblock_ok o (by omega) (by omega)) (fword_ok o (by omega) (by omega)) v) _
  · refine ⟨up (up (up m)), ?_⟩
    unfold obj_SetData.f
    refine Eq.trans (bind_is (field_out hs hO o m true (by rw [if_pos rfl]; exact e) k) _) ?_
    dsimp only
    rw [if_neg (by decide), if_neg e]
theorem SetPtr_at {n : Nat} (hs : n ≤ 60) {l : List Int} {h : Int} {B : List Int} {P D : Int} (hO : OK (n : Int) 16 1 1 l) (o : Obj n l h B P D) (m : Int) {i x : Int} (hx : 0 ≤ x ∧ x ≤ (n : Int)) (k : Nat) (hk : 10 ≤ k) :
    ∃ m', obj_SetPtr.f k l m (n : Int) 16 1 1 (h + 1) i x = some (if 0 ≤ i ∧ i < P then (0, m', l.set (wp 16 1 (fblock h B i) (fword B i)) x) else (7, m', l)) := by
  have hf := o.fits
  unfold fitv at hf
  by_cases e : 0 ≤ i ∧ i < P
  · obtain ⟨m1, e1⟩ := fieldp_in hs hO o m e.1 e.2 k hk
    refine ⟨up m1, ?_⟩
    unfold obj_SetPtr.f
    refine Eq.trans (bind_is e1 _) ?_
    dsimp only
    rw [if_pos rfl, if_neg (by omega)]
    refine Eq.trans (bind_is (conf_eq _ _ _ _ _ _) _) ?_
    dsimp only
    rw [if_neg (by omega), show x % 4294967296 = x by omega, if_pos e]
    exact bind_is (SetWord_at hO m1 (fblock_ok o e.1 (by omega)) (fword_ok o e.1 (by omega)) x) _
  · refine ⟨up (up (up m)), ?_⟩
    unfold obj_SetPtr.f
    refine Eq.trans (bind_is (field_out hs hO o m false (by rw [if_neg (by decide)]; exact e) k) _) ?_
    dsimp only
    rw [if_neg (by decide), if_neg e]
/-- Two fields of an object lie at two places. -/
theorem places_apart {n : Nat} {l : List Int} {h : Int} {B : List Int} {P D : Int} (o : Obj n l h B P D) {i j : Int} (h0 : 0 ≤ i) (h1 : i < P + D) (g0 : 0 ≤ j) (g1 : j < P + D) (e : fblock h B i = fblock h B j) (f : fword B i = fword B j) : i = j := by
  have hl := o.leafs
  unfold fblock at e
  unfold fword at f
  by_cases q : B = []
  · rw [if_pos q, if_pos q] at f; omega
  · have h2 := hl.2 q
    rw [if_neg q, if_neg q] at e f
    obtain ⟨s, hs⟩ : ∃ t : Nat, (t : Int) = i / 15 := ⟨(i / 15).toNat, by omega⟩
    obtain ⟨t, ht⟩ : ∃ t : Nat, (t : Int) = j / 15 := ⟨(j / 15).toNat, by omega⟩
    rw [← hs, ← ht, rd_nat' B s (by omega), rd_nat' B t (by omega)] at e
    have hnd := List.pairwise_iff_getElem.1 (List.nodup_cons.1 o.nd).2
    have : s = t := by
      rcases Nat.lt_trichotomy s t with c | c | c
      · exact absurd e (hnd s t (by omega) (by omega) c)
      · exact c
      · exact absurd e.symm (hnd t s (by omega) (by omega) c)
    omega
/-- A field is set: the object stands, and only this field is another one. -/
theorem Obj.put {n : Nat} {l : List Int} {h : Int} {B : List Int} {P D : Int} (hO : OK (n : Int) 16 1 1 l) (o : Obj n l h B P D) {j : Int} (g0 : 0 ≤ j) (g1 : j < P + D) (v : Int) :
    Obj n (l.set (wp 16 1 (fblock h B j) (fword B j)) v) h B P D ∧ ∀ i : Int, 0 ≤ i → i < P + D → fieldv (l.set (wp 16 1 (fblock h B j) (fword B j)) v) h B i = if i = j then v else fieldv l h B i := by
  have hmay := hO.may
  have hb := fblock_ok o g0 g1
  have hw := fword_ok o g0 g1
  obtain ⟨p1, p2, p3, p4, p5, p6⟩ := field_ok o g0 g1
  have hh := o.mem h (by simp)
  have h8 := o.few
  have wd : ∀ c w : Int, 0 ≤ c ∧ c < (n : Int) → 0 ≤ w ∧ w < 16 → ¬ (fblock h B j = c ∧ fword B j = w) → word 16 1 (l.set (wp 16 1 (fblock h B j) (fword B j)) v) c w = word 16 1 l c w := fun c w hc hw2 e => by
    rw [word_set hmay hO.len hb hc hw hw2, if_neg e]
  constructor
  · refine ⟨o.fits, o.size, o.nd, o.mem, ?_, ?_, ?_, fun t ht => ?_, fun x hx => ?_⟩
    · rw [wd h 0 hh zz (fun q => by have := p4 q.1; omega)]; exact o.tag
    · rw [wd h 1 hh z1 (fun q => by have := p4 q.1; omega)]; exact o.p1
    · rw [wd h 2 hh z2 (fun q => by have := p4 q.1; omega)]; exact o.p2
    · have hne : B ≠ [] := fun e => by rw [e] at ht; exact absurd ht (by simp)
      have : fblock h B j ≠ h := by
        unfold fblock
        rw [if_neg hne]
        intro e
        obtain ⟨s, hs⟩ : ∃ t : Nat, (t : Int) = j / 15 := ⟨(j / 15).toNat, by omega⟩
        have := o.leafs.2 hne
        have hm : rd B (s : Int) ∈ B := rd_mem B s (by omega)
        rw [hs, e] at hm
        exact (List.nodup_cons.1 o.nd).1 hm
      rw [wd h _ hh (by omega) (fun q => this q.1)]; exact o.leaf t ht
    · rw [wd x 0 (o.mem x (List.mem_cons_of_mem h hx)) zz (fun q => by omega)]; exact o.ltag x hx
  · intro i h0 h1
    by_cases e : i = j
    · subst e
      rw [if_pos rfl]
      unfold fieldv
      rw [word_set hmay hO.len hb hb hw hw, if_pos ⟨rfl, rfl⟩]
    · rw [if_neg e]
      exact wd _ _ (fblock_ok o h0 h1) (fword_ok o h0 h1) (fun q => e (places_apart o h0 h1 g0 g1 q.1.symm q.2.symm))
/-- What is set in another block changes nothing. -/
theorem Obj.far {n : Nat} {l : List Int} {h : Int} {B : List Int} {P D : Int} (hO : OK (n : Int) 16 1 1 l) (o : Obj n l h B P D) {b w : Int} (hb : 0 ≤ b ∧ b < (n : Int)) (hw : 0 ≤ w ∧ w < 16) (hn : b ∉ h :: B) (v : Int) :
    Obj n (l.set (wp 16 1 b w) v) h B P D ∧ ∀ i : Int, 0 ≤ i → i < P + D → fieldv (l.set (wp 16 1 b w) v) h B i = fieldv l h B i := by
  have wd : ∀ c w2 : Int, c ∈ h :: B → 0 ≤ w2 ∧ w2 < 16 → word 16 1 (l.set (wp 16 1 b w) v) c w2 = word 16 1 l c w2 := fun c w2 hc hw2 => by
    rw [word_set hO.may hO.len hb (o.mem c hc) hw hw2, if_neg (fun q : b = c ∧ w = w2 => hn (by rw [q.1]; exact hc))]
  exact ⟨o.frame fun c w2 hc hw2 _ _ => wd c w2 hc hw2, fun i h0 h1 => wd _ _ (field_ok o h0 h1).1 (fword_ok o h0 h1)⟩
theorem change_at {n : Nat} (hs : n ≤ 60) {l : List Int} {h : Int} {B : List Int} {P D : Int} (hO : OK (n : Int) 16 1 1 l) (o : Obj n l h B P D) (m by_ bound : Int) : count_change.f l m (n : Int) 16 1 1 (h + 1) by_ bound = some (if word 16 1 l h 3 = bound then (0, false, up (up m), l) else (wrap64 (word 16 1 l h 3 + by_), true, up (up (up m)), l.set (wp 16 1 h 3) (wrap64 (word 16 1 l h 3 + by_) % 4294967296))) := by
  have hh := o.mem h (by simp)
  have hv : 0 ≤ word 16 1 l h 3 ∧ word 16 1 l h 3 < 4294967296 := hO.u32 (wp 16 1 h 3)
  unfold count_change.f
  refine Eq.trans (bind_is (is_obj hs hO o m) _) ?_
  rw [if_pos rfl, wrap64_id (n := h + 1 - 1) (by omega) (by omega), show h + 1 - 1 = h by omega]
  refine Eq.trans (bind_is (Word_at hO (up m) hh z3) _) ?_
  dsimp only
  rw [wrap64_id (n := word 16 1 l h 3) (by omega) (by omega)]
  by_cases e : word 16 1 l h 3 = bound
  · rw [if_pos e, if_pos e]; rfl
  · rw [if_neg e, if_neg e]
    exact bind_is (SetWord_at hO _ hh z3 _) _
theorem count_of_at {n : Nat} (hs : n ≤ 60) {l : List Int} {h : Int} {B : List Int} {P D : Int} (hO : OK (n : Int) 16 1 1 l) (o : Obj n l h B P D) (m : Int) : count_Of.f l m (n : Int) 16 1 1 (h + 1) = some (word 16 1 l h 3, up (up m)) := by
  have hh := o.mem h (by simp)
  have hv : 0 ≤ word 16 1 l h 3 ∧ word 16 1 l h 3 < 4294967296 := hO.u32 (wp 16 1 h 3)
  unfold count_Of.f
  refine Eq.trans (bind_is (is_obj hs hO o m) _) ?_
  rw [if_pos rfl, wrap64_id (n := h + 1 - 1) (by omega) (by omega), show h + 1 - 1 = h by omega]
  refine Eq.trans (bind_is (Word_at hO (up m) hh z3) _) ?_
  dsimp only
  rw [wrap64_id (n := word 16 1 l h 3) (by omega) (by omega)]; rfl
def isHd (x : Int) : Prop := x % 4 = 1 ∨ x % 4 = 2
instance (x : Int) : Decidable (isHd x) := by unfold isHd; infer_instance
def basev (x : Int) : Int := if isHd x then x % 4 + 4 * (x / 4 % 2) + 16 * (x / 8 % 2) else x % 4
theorem base_rng {x : Int} (h : 0 ≤ x ∧ x ≤ 255) : 0 ≤ basev x ∧ basev x < 32 := by
  unfold basev
  split <;> omega
/-- A head's tag: its pieces, with the ring's mark r. -/
theorem un_head {x r : Int} (hh : isHd x) (hr : r = 0 ∨ r = 1) : tag_Unpack.f (basev x + 64 * r) = some (x % 4, x / 4 % 2, 0, x / 8 % 2, 0, r, 0) := by
  have e : basev x = x % 4 + 4 * (x / 4 % 2) + 16 * (x / 8 % 2) := if_pos hh
  have h0 : 0 ≤ basev x + 64 * r ∧ basev x + 64 * r < 128 := by omega
  obtain ⟨w, hw⟩ := Int.eq_ofNat_of_zero_le h0.1
  rw [hw, unpack_eq w (by omega)]
  have hw' : (w : Int) = x % 4 + 4 * (x / 4 % 2) + 16 * (x / 8 % 2) + 64 * r := by rw [← e]; exact hw.symm
  have a1 : ((w % 4 : Nat) : Int) = x % 4 := by omega
  have a2 : ((w / 4 % 2 : Nat) : Int) = x / 4 % 2 := by omega
  have a3 : ((w / 8 % 2 : Nat) : Int) = 0 := by omega
  have a4 : ((w / 16 % 2 : Nat) : Int) = x / 8 % 2 := by omega
  have a5 : ((w / 32 % 2 : Nat) : Int) = 0 := by omega
  have a6 : ((w / 64 % 2 : Nat) : Int) = r := by omega
  have a7 : ((w / 256 : Nat) : Int) = 0 := by omega
  have a7' : ((w / 256 % 16777216 : Nat) : Int) = 0 := by omega
  first | rw [a1, a2, a3, a4, a5, a6, a7] | rw [a1, a2, a3, a4, a5, a6, a7']
theorem pkG (k : Nat) (hk : 60 ≤ k) {K C S r : Int} (hK : K = 1 ∨ K = 2) (hC : C = 0 ∨ C = 1) (hS : S = 0 ∨ S = 1) (hr : r = 0 ∨ r = 1) : tag_Pack.f k K C 0 S 0 r 0 = some (K + 4 * C + 16 * S + 64 * r, 0) := by
  obtain ⟨k, rfl⟩ : ∃ q, k = q + 60 := ⟨k - 60, by omega⟩
  rcases hK with rfl | rfl <;> rcases hC with rfl | rfl <;> rcases hS with rfl | rfl <;> rcases hr with rfl | rfl <;> kernel_rfl
theorem pk_head (k : Nat) (hk : 60 ≤ k) {x r : Int} (hh : isHd x) (hr : r = 0 ∨ r = 1) : tag_Pack.f k (x % 4) (x / 4 % 2) 0 (x / 8 % 2) 0 r 0 = some (basev x + 64 * r, 0) := by
  have e : basev x = x % 4 + 4 * (x / 4 % 2) + 16 * (x / 8 % 2) := if_pos hh
  rw [e]
  exact pkG k hk hh (by omega) (by omega) hr
def hd : List Int → Int → Int
  | [], e => e
  | a :: _, _ => a + 1
def lst : Int → List Int → Int
  | p, [] => p
  | _, a :: t => lst (a + 1) t
/-- The blocks hang together forward and backward: p is the name ahead of the first one, e behind the last one. -/
def RLe (l : List Int) : Int → List Int → Int → Prop
  | _, [], _ => True
  | p, a :: t, e => word 16 1 l a 6 = p ∧ word 16 1 l a 7 = hd t e ∧ RLe l (a + 1) t e
theorem hd_app : ∀ (P Q : List Int) (e : Int), hd (P ++ Q) e = hd P (hd Q e)
  | [], _, _ => rfl
  | _ :: _, _, _ => rfl
theorem lst_app : ∀ (p : Int) (P Q : List Int), lst p (P ++ Q) = lst (lst p P) Q
  | _, [], _ => rfl
  | _, a :: t, Q => lst_app (a + 1) t Q
theorem RLe.app {l : List Int} : ∀ (P : List Int) (p : Int) (Q : List Int) (e : Int), RLe l p (P ++ Q) e ↔ RLe l p P (hd Q e) ∧ RLe l (lst p P) Q e
  | [], p, Q, e => by simp [RLe, lst]
  | a :: t, p, Q, e => by
    have := RLe.app (l := l) t (a + 1) Q e
    simp only [List.cons_append, RLe, lst, this, hd_app, and_assoc]
theorem RLe.same {l l' : List Int} : ∀ {L : List Int} {p e : Int}, (∀ x ∈ L, word 16 1 l' x 6 = word 16 1 l x 6 ∧ word 16 1 l' x 7 = word 16 1 l x 7) → RLe l p L e → RLe l' p L e
  | [], _, _, _, _ => trivial
  | a :: t, p, e, h, hL => ⟨(h a (by simp)).1.trans hL.1, (h a (by simp)).2.trans hL.2.1, RLe.same (fun x hx => h x (by simp [hx])) hL.2.2⟩
theorem lst_mem : ∀ {L : List Int} (p : Int), L ≠ [] → ∃ y ∈ L, lst p L = y + 1
  | [], _, h => absurd rfl h
  | [a], _, _ => ⟨a, by simp, rfl⟩
  | a :: b :: t, p, _ => by
    obtain ⟨y, hy, e⟩ := lst_mem (L := b :: t) (a + 1) (by simp)
    exact ⟨y, by simp at hy ⊢; right; exact hy, e⟩
theorem RLe.next {l l' : List Int} {e e' : Int} : ∀ {L : List Int} {p : Int}, L.Nodup → (∀ x ∈ L, word 16 1 l' x 6 = word 16 1 l x 6) → (∀ x ∈ L, x + 1 ≠ lst p L → word 16 1 l' x 7 = word 16 1 l x 7) → (∀ x ∈ L, x + 1 = lst p L → word 16 1 l' x 7 = e') → RLe l p L e → RLe l' p L e'
  | [], _, _, _, _, _, _ => trivial
  | [a], p, _, h6, _, h7', hL => ⟨(h6 a (by simp)).trans hL.1, h7' a (by simp) rfl, trivial⟩
  | a :: b :: t, p, hn, h6, h7, h7', hL => by
    have hn' := List.nodup_cons.1 hn
    have hne : a + 1 ≠ lst p (a :: b :: t) := by
      obtain ⟨y, hy, e⟩ := lst_mem (L := b :: t) (a + 1) (by simp)
      intro q
      have q' : a + 1 = lst (a + 1) (b :: t) := q
      have : a = y := by omega
      exact hn'.1 (this ▸ hy)
    exact ⟨(h6 a (by simp)).trans hL.1, (h7 a (by simp) hne).trans hL.2.1, RLe.next (L := b :: t) (p := a + 1) hn'.2 (fun x hx => h6 x (List.mem_cons_of_mem _ hx)) (fun x hx hq => h7 x (List.mem_cons_of_mem _ hx) hq) (fun x hx hq => h7' x (List.mem_cons_of_mem _ hx) hq) hL.2.2⟩
/-- A ring of heads Hs, of the kinds ks, among other blocks. -/
structure Ring (n : Nat) (Hs ks l L : List Int) : Prop where
  ok : OK (n : Int) 16 1 1 l
  mem : ∀ x ∈ L, 0 ≤ x ∧ x < (n : Int)
  nd : L.Nodup
  tags : ∀ b : Int, b ∈ Hs → word 16 1 l b 0 = basev (rd ks b) + 64 * (if b ∈ L then 1 else 0)
  heads : ∀ b ∈ Hs, isHd (rd ks b)
  sub : ∀ b ∈ L, b ∈ Hs
  hm : ∀ b ∈ Hs, 0 ≤ b ∧ b < (n : Int)
  small : ∀ b ∈ Hs, 0 ≤ rd ks b ∧ rd ks b ≤ 255
  first : rd l ((7 : Nat) : Int) = hd L 0
  last : rd l ((8 : Nat) : Int) = lst 0 L
  count : rd l ((9 : Nat) : Int) = (L.length : Int)
  links : RLe l 0 L 0
/-- What a ring's change leaves as it was. -/
structure RF (n : Nat) (Hs l l' : List Int) : Prop where
  far : ∀ c u : Int, 0 ≤ c ∧ c < (n : Int) → 0 ≤ u ∧ u < 16 → u ≠ 0 → u ≠ 6 → u ≠ 7 → word 16 1 l' c u = word 16 1 l c u
  out : ∀ c u : Int, 0 ≤ c ∧ c < (n : Int) → 0 ≤ u ∧ u < 16 → c ∉ Hs → word 16 1 l' c u = word 16 1 l c u
  regs : ∀ i : Nat, i < 24 → i ≠ 7 → i ≠ 8 → i ≠ 9 → rd l' (i : Int) = rd l (i : Int)
theorem z6 : (0 : Int) ≤ 6 ∧ (6 : Int) < 16 := by decide
theorem z7 : (0 : Int) ≤ 7 ∧ (7 : Int) < 16 := by decide
theorem lst_rng {n : Nat} {L : List Int} (h : ∀ x ∈ L, 0 ≤ x ∧ x < (n : Int)) : 0 ≤ lst 0 L ∧ lst 0 L ≤ (n : Int) ∧ (lst 0 L = 0 → L = []) := by
  by_cases e : L = []
  · subst e; exact ⟨Int.le_refl _, by show (0 : Int) ≤ _; omega, fun _ => rfl⟩
  · obtain ⟨y, hy, q⟩ := lst_mem 0 e
    have := h y hy
    omega
theorem hd_rng {n : Nat} {L : List Int} (h : ∀ x ∈ L, 0 ≤ x ∧ x < (n : Int)) : 0 ≤ hd L 0 ∧ hd L 0 ≤ (n : Int) ∧ (hd L 0 = 0 → L = []) := by
  cases L with
  | nil => exact ⟨Int.le_refl _, by show (0 : Int) ≤ _; omega, fun _ => rfl⟩
  | cons a t =>
    have := h a (by simp)
    show 0 ≤ a + 1 ∧ a + 1 ≤ (n : Int) ∧ (a + 1 = 0 → _)
    exact ⟨by omega, by omega, fun q => by omega⟩
theorem link_eq {n : Nat} (hn : n < 1000) {l : List Int} (h : OK (n : Int) 16 1 1 l) (m : Int) {x w v : Int} {r : Nat} (hx : 0 ≤ x ∧ x ≤ (n : Int)) (hw : 0 ≤ w ∧ w < 16) (hr : r < 24) (hv : 0 ≤ v ∧ v ≤ (n : Int)) :
    ∃ l', ring_link.f l m (n : Int) 16 1 1 x w (r : Int) v = some (IntKind.u64.wrap (m + 1), l') ∧ OK (n : Int) 16 1 1 l' ∧ (∀ c u, 0 ≤ c ∧ c < (n : Int) → 0 ≤ u ∧ u < 16 → word 16 1 l' c u = if c + 1 = x ∧ u = w then v else word 16 1 l c u) ∧
      (∀ i : Nat, i < 24 → rd l' (i : Int) = if x = 0 ∧ i = r then v else rd l (i : Int)) := by
  by_cases h0 : x = 0
  · refine ⟨l.set r v, ?_, h.set r v (by omega) (by omega), fun c u hc hu => ?_, fun i hi => ?_⟩
    · unfold ring_link.f
      rw [if_pos h0]
      exact bind_is (SetReg_at h m hr v (by omega)) _
    · rw [word_reg h.may h.len hc hu hr, if_neg (by omega)]
    · rw [reg_reg h.may h.len hr]
      by_cases e : r = i
      · rw [if_pos e, if_pos ⟨h0, e.symm⟩]
      · rw [if_neg e, if_neg (fun q => e q.2.symm)]
  · have hb : 0 ≤ x - 1 ∧ x - 1 < (n : Int) := by omega
    refine ⟨l.set (wp 16 1 (x - 1) w) v, ?_, h.set _ v (by omega) (by omega), fun c u hc hu => ?_, fun i hi => ?_⟩
    · unfold ring_link.f
      rw [if_neg h0, wrap64_id (n := x - 1) (by omega) (by omega), show v % 4294967296 = v by omega]
      exact bind_is (SetWord_at h m hb hw v) _
    · rw [word_set h.may h.len hb hc hw hu]
      by_cases e : x - 1 = c ∧ w = u
      · rw [if_pos e, if_pos (by omega)]
      · rw [if_neg e, if_neg (by omega)]
    · rw [reg_word h.may h.len hb hw hi, if_neg (fun q => h0 q.1)]
theorem lastL {L : List Int} {x : Int} (h0 : 0 ≤ x) (q : x + 1 = lst 0 L) : x ∈ L := by
  by_cases e : L = []
  · subst e; have : x + 1 = 0 := q; omega
  · obtain ⟨y, hy, e2⟩ := lst_mem 0 e
    have : x = y := by omega
    rw [this]; exact hy
theorem headS {S : List Int} {x : Int} (h0 : 0 ≤ x) (q : x + 1 = hd S 0) : x ∈ S := by
  cases S with
  | nil => have : x + 1 = 0 := q; omega
  | cons a t =>
    have q' : x + 1 = a + 1 := q
    have : x = a := by omega
    rw [this]; simp
theorem marked_head {n : Nat} {Hs ks l L : List Int} (h : Ring n Hs ks l L) (m : Int) {b : Int} (hbH : b ∈ Hs) (q : Int) : ring_marked.f l m (n : Int) 16 1 1 b q = some (rd ks b % 4, rd ks b / 4 % 2, 0, rd ks b / 8 % 2, 0, (if b ∈ L then 1 else 0), 0, ((if b ∈ L then (1 : Int) else 0) == q), IntKind.u64.wrap (m + 1)) := by
  have hb := h.hm b hbH
  have hh := h.heads b hbH
  have hr : (if b ∈ L then (1 : Int) else 0) = 0 ∨ (if b ∈ L then (1 : Int) else 0) = 1 := by split <;> simp
  unfold ring_marked.f
  rw [if_neg (by omega)]
  refine Eq.trans (bind_is (conf_eq l m _ _ _ _) _) ?_
  rw [if_neg (by show ¬ b ≥ (n : Int); omega)]
  refine Eq.trans (bind_is (Word_at h.ok m hb zz) _) ?_
  rw [h.tags b hbH]
  refine Eq.trans (bind_is (un_head hh hr) _) ?_
  dsimp only
  by_cases h1 : rd ks b % 4 = 1
  · rw [if_pos h1]
  · rw [if_neg h1, if_pos (show rd ks b % 4 = 2 from hh.resolve_left h1)]
theorem mark_at {n : Nat} {l : List Int} (h : OK (n : Int) 16 1 1 l) (m : Int) (k : Nat) (hk : 60 ≤ k) {b x : Int} (hb : 0 ≤ b ∧ b < (n : Int)) (hh : isHd x) (o t : Int) (ht : t = 0 ∨ t = 1) : ring_mark.f k l m (n : Int) 16 1 1 b (x % 4) (x / 4 % 2) 0 (x / 8 % 2) 0 o 0 t = some (IntKind.u64.wrap (m + 1), l.set (wp 16 1 b 0) (basev x + 64 * t)) := by
  unfold ring_mark.f
  refine Eq.trans (bind_is (pk_head k hk hh ht) _) ?_
  dsimp only
  rw [if_pos rfl]
  exact bind_is (SetWord_at h m hb zz _) _
theorem add_not {n : Nat} {Hs ks l L : List Int} (h : Ring n Hs ks l L) (m : Int) (k : Nat) {b : Int} (hbL : b ∈ L) : ring_Add.f k l m (n : Int) 16 1 1 b = some (false, IntKind.u64.wrap (m + 1), l) := by
  unfold ring_Add.f
  refine Eq.trans (bind_is (marked_head h m (h.sub b hbL) 0) _) ?_
  dsimp only
  rw [if_pos hbL, if_neg (by decide)]
theorem cut_not {n : Nat} {Hs ks l L : List Int} (h : Ring n Hs ks l L) (m : Int) (k : Nat) {b : Int} (hbH : b ∈ Hs) (hbL : b ∉ L) : ring_Cut.f k l m (n : Int) 16 1 1 b = some (false, IntKind.u64.wrap (m + 1), l) := by
  unfold ring_Cut.f
  refine Eq.trans (bind_is (marked_head h m hbH 1) _) ?_
  dsimp only
  rw [if_neg hbL, if_neg (by decide)]
theorem ring_few {n : Nat} {Hs ks l L : List Int} (h : Ring n Hs ks l L) : L.length ≤ n := by
  have := h.nd.length_le_of_subset (l₂ := iv 0 n) (fun x hx => by
    have := h.mem x hx
    unfold iv
    exact List.mem_map.2 ⟨x.toNat, List.mem_range'_1.2 (by omega), by omega⟩)
  rw [iv_len] at this
  omega
theorem add_ring {n : Nat} (hs : n < 1000) {Hs ks l L : List Int} (h : Ring n Hs ks l L) (m : Int) (k : Nat) (hk : 60 ≤ k) {b : Int} (hbH : b ∈ Hs) (hn : b ∉ L) :
    ∃ m' l', ring_Add.f k l m (n : Int) 16 1 1 b = some (true, m', l') ∧ Ring n Hs ks l' (L ++ [b]) ∧ RF n Hs l l' := by
  have hb := h.hm b hbH
  have hh := h.heads b hbH
  have hv := base_rng (h.small b hbH)
  have he := lst_rng h.mem
  have hfew := ring_few h
  have hO1 := h.ok.set (wp 16 1 b 0) (basev (rd ks b) + 64 * 1) (by omega) (by omega)
  have hO2 := hO1.set (wp 16 1 b 6) (lst 0 L) (by omega) (by omega)
  have hO3 := hO2.set (wp 16 1 b 7) 0 (by decide) (by decide)
  obtain ⟨l4, e4, hO4, hw4, hr4⟩ := link_eq hs hO3 (IntKind.u64.wrap ((IntKind.u64.wrap ((IntKind.u64.wrap ((IntKind.u64.wrap ((IntKind.u64.wrap (m + 1)) + 1)) + 1)) + 1)) + 1)) (x := lst 0 L) (w := 7) (v := b + 1) (r := 7) ⟨he.1, he.2.1⟩ z7 (by decide) (by omega)
  have hO5 := hO4.set 8 (b + 1) (by omega) (by omega)
  have hO6 := hO5.set 9 ((L.length : Int) + 1) (by omega) (by omega)
  have hr3 : ∀ i : Nat, i < 24 → rd (((l.set (wp 16 1 b 0) (basev (rd ks b) + 64 * 1)).set (wp 16 1 b 6) (lst 0 L)).set (wp 16 1 b 7) 0) (i : Int) = rd l (i : Int) := fun i hi => by
    rw [reg_word h.ok.may hO2.len hb z7 hi, reg_word h.ok.may hO1.len hb z6 hi, reg_word h.ok.may h.ok.len hb zz hi]
  have hw : ∀ c u : Int, 0 ≤ c ∧ c < (n : Int) → 0 ≤ u ∧ u < 16 → word 16 1 ((l4.set 8 (b + 1)).set 9 ((L.length : Int) + 1)) c u = if c + 1 = lst 0 L ∧ u = 7 then b + 1 else if b = c ∧ 7 = u then 0 else if b = c ∧ 6 = u then lst 0 L else if b = c ∧ 0 = u then basev (rd ks b) + 64 * 1 else word 16 1 l c u := fun c u hc hu => by
    rw [word_reg h.ok.may hO5.len hc hu (by decide), word_reg h.ok.may hO4.len hc hu (by decide), hw4 c u hc hu, word_set h.ok.may hO2.len hb hc z7 hu, word_set h.ok.may hO1.len hb hc z6 hu, word_set h.ok.may h.ok.len hb hc zz hu]
  have hbl : b + 1 ≠ lst 0 L := by
    intro q
    by_cases e : L = []
    · subst e; have : b + 1 = 0 := q; omega
    · obtain ⟨y, hy, e2⟩ := lst_mem 0 e
      have : b = y := by omega
      exact hn (this ▸ hy)
  have hxb : ∀ x ∈ L, ¬ b = x := fun x hx e => hn (e ▸ hx)
  refine ⟨(IntKind.u64.wrap ((IntKind.u64.wrap ((IntKind.u64.wrap ((IntKind.u64.wrap ((IntKind.u64.wrap ((IntKind.u64.wrap ((IntKind.u64.wrap ((IntKind.u64.wrap ((IntKind.u64.wrap (m + 1)) + 1)) + 1)) + 1)) + 1)) + 1)) + 1)) + 1)) + 1)), _, ?_, ⟨hO6, ?_, ?_, ?_, h.heads, ?_, h.hm, h.small, ?_, ?_, ?_, ?_⟩, ⟨?_, ?_, ?_⟩⟩
  · unfold ring_Add.f
    refine Eq.trans (bind_is (marked_head h m hbH 0) _) ?_
    dsimp only
    rw [if_neg hn]
    rw [if_pos (show ((0 : Int) == 0) = true from rfl)]
    refine Eq.trans (bind_is (mark_at h.ok _ k hk hb hh 0 1 (Or.inr rfl)) _) ?_
    dsimp only
    refine Eq.trans (bind_is (Reg_at hO1 _ (i := 8) (by decide)) _) ?_
    dsimp only
    rw [reg_word h.ok.may h.ok.len hb zz (by decide), h.last, show lst 0 L % 4294967296 = lst 0 L by omega]
    refine Eq.trans (bind_is (SetWord_at hO1 _ hb z6 (lst 0 L)) _) ?_
    dsimp only
    refine Eq.trans (bind_is (SetWord_at hO2 _ hb z7 0) _) ?_
    dsimp only
    rw [wrap64_id (n := b + 1) (by omega) (by omega)]
    refine Eq.trans (bind_is e4 _) ?_
    dsimp only
    refine Eq.trans (bind_is (SetReg_at hO4 _ (i := 8) (by decide) (b + 1) (by omega)) _) ?_
    dsimp only
    refine Eq.trans (bind_is (Reg_at hO5 _ (i := 9) (by decide)) _) ?_
    dsimp only
    rw [reg_reg h.ok.may hO4.len (by decide), if_neg (by decide), hr4 9 (by decide), if_neg (by omega), hr3 9 (by decide), h.count, wrap64_id (n := (L.length : Int) + 1) (by omega) (by omega)]
    exact bind_is (SetReg_at hO5 _ (i := 9) (by decide) _ (by omega)) _
  · intro x hx
    rcases List.mem_append.1 hx with hx | hx
    · exact h.mem x hx
    · rw [List.mem_singleton.1 hx]; exact hb
  · exact List.nodup_append.2 ⟨h.nd, by simp, fun x hx y hy => by rw [List.mem_singleton.1 hy]; exact fun e => hn (e ▸ hx)⟩
  · intro c hc
    rw [hw c 0 (h.hm c hc) zz, if_neg (by omega), if_neg (by omega), if_neg (by omega)]
    by_cases e : b = c
    · rw [if_pos ⟨e, rfl⟩, if_pos (by simp [e]), e]
    · rw [if_neg (fun q => e q.1), h.tags c hc]
      by_cases f : c ∈ L
      · rw [if_pos f, if_pos (by simp [f])]
      · rw [if_neg f, if_neg (by
          intro q
          rcases List.mem_append.1 q with q | q
          · exact f q
          · exact e (List.mem_singleton.1 q).symm)]
  · intro x hx
    rcases List.mem_append.1 hx with hx | hx
    · exact h.sub x hx
    · rw [List.mem_singleton.1 hx]; exact hbH
  · rw [reg_reg h.ok.may hO5.len (by decide), if_neg (by decide), reg_reg h.ok.may hO4.len (by decide), if_neg (by decide), hr4 7 (by decide), hr3 7 (by decide), h.first, hd_app]
    by_cases e : lst 0 L = 0
    · rw [if_pos ⟨e, rfl⟩, he.2.2 e]; rfl
    · rw [if_neg (fun q => e q.1)]
      cases L with
      | nil => exact absurd rfl e
      | cons a t => rfl
  · rw [reg_reg h.ok.may hO5.len (by decide), if_neg (by decide), reg_reg h.ok.may hO4.len (by decide), if_pos rfl, lst_app]; rfl
  · rw [reg_reg h.ok.may hO5.len (by decide), if_pos rfl]; simp
  · rw [RLe.app]
    refine ⟨RLe.next h.nd (fun x hx => ?_) (fun x hx hq => ?_) (fun x hx hq => ?_) h.links, ?_, ?_, trivial⟩
    · rw [hw x 6 (h.mem x hx) z6, if_neg (by omega), if_neg (by omega), if_neg (fun q => hxb x hx q.1), if_neg (fun q => hxb x hx q.1)]
    · rw [hw x 7 (h.mem x hx) z7, if_neg (fun q => hq q.1), if_neg (fun q => hxb x hx q.1), if_neg (by omega), if_neg (by omega)]
    · rw [hw x 7 (h.mem x hx) z7, if_pos ⟨hq, rfl⟩]; rfl
    · rw [hw b 6 hb z6, if_neg (by omega), if_neg (by omega), if_pos ⟨rfl, rfl⟩]
    · rw [hw b 7 hb z7, if_neg (fun q => hbl q.1), if_pos ⟨rfl, rfl⟩]; rfl
  · intro c u hc hu h0 h6 h7
    rw [hw c u hc hu, if_neg (fun q => h7 q.2), if_neg (fun q => h7 q.2.symm), if_neg (fun q => h6 q.2.symm), if_neg (fun q => h0 q.2.symm)]
  · intro c u hc hu hcH
    have hcb : ¬ b = c := fun q => hcH (q ▸ hbH)
    rw [hw c u hc hu, if_neg (fun q => hcH (h.sub c (lastL hc.1 q.1))), if_neg (fun q => hcb q.1), if_neg (fun q => hcb q.1), if_neg (fun q => hcb q.1)]
  · intro i hi h7 h8 h9
    rw [reg_reg h.ok.may hO5.len (by decide), if_neg (fun q => h9 q.symm), reg_reg h.ok.may hO4.len (by decide), if_neg (fun q => h8 q.symm), hr4 i hi, if_neg (fun q => h7 q.2), hr3 i hi]
theorem cut_ring {n : Nat} (hs : n < 1000) {Hs ks l P S : List Int} {b : Int} (h : Ring n Hs ks l (P ++ b :: S)) (m : Int) (k : Nat) (hk : 60 ≤ k) :
    ∃ m' l', ring_Cut.f k l m (n : Int) 16 1 1 b = some (true, m', l') ∧ Ring n Hs ks l' (P ++ S) ∧ RF n Hs l l' := by
  have hbm : b ∈ P ++ b :: S := by simp
  have hb := h.mem b hbm
  have hbH := h.sub b hbm
  have hh' := h.heads b hbH
  have hv := base_rng (h.small b hbH)
  have hP : ∀ x ∈ P, 0 ≤ x ∧ x < (n : Int) := fun x hx => h.mem x (by simp [hx])
  have hS : ∀ x ∈ S, 0 ≤ x ∧ x < (n : Int) := fun x hx => h.mem x (by simp [hx])
  have hq := lst_rng hP
  have hh := hd_rng hS
  have hfew := ring_few h
  obtain ⟨nP, nbS, nPS⟩ := List.nodup_append.1 h.nd
  obtain ⟨nb, nS⟩ := List.nodup_cons.1 nbS
  have bP : b ∉ P := fun q => nPS b q b (by simp) rfl
  obtain ⟨r1, r2⟩ := (RLe.app P 0 (b :: S) 0).1 h.links
  obtain ⟨r3, r4, r5⟩ := r2
  have hO1 := h.ok.set (wp 16 1 b 0) (basev (rd ks b) + 64 * 0) (by omega) (by omega)
  obtain ⟨l2, e2, hO2, hw2, hr2⟩ := link_eq hs hO1 (IntKind.u64.wrap ((IntKind.u64.wrap ((IntKind.u64.wrap ((IntKind.u64.wrap (m + 1)) + 1)) + 1)) + 1)) (x := lst 0 P) (w := 7) (v := hd S 0) (r := 7) ⟨hq.1, hq.2.1⟩ z7 (by decide) ⟨hh.1, hh.2.1⟩
  obtain ⟨l3, e3, hO3, hw3, hr3⟩ := link_eq hs hO2 (IntKind.u64.wrap ((IntKind.u64.wrap ((IntKind.u64.wrap ((IntKind.u64.wrap ((IntKind.u64.wrap (m + 1)) + 1)) + 1)) + 1)) + 1)) (x := hd S 0) (w := 6) (v := lst 0 P) (r := 8) ⟨hh.1, hh.2.1⟩ z6 (by decide) ⟨hq.1, hq.2.1⟩
  have hO4 := hO3.set (wp 16 1 b 6) 0 (by decide) (by decide)
  have hO5 := hO4.set (wp 16 1 b 7) 0 (by decide) (by decide)
  have hlen : (P ++ b :: S).length = (P ++ S).length + 1 := by simp; omega
  have hO6 := hO5.set 9 ((P ++ S).length : Int) (by omega) (by omega)
  have hr : ∀ i : Nat, i < 24 → rd ((l3.set (wp 16 1 b 6) 0).set (wp 16 1 b 7) 0) (i : Int) = if hd S 0 = 0 ∧ i = 8 then lst 0 P else if lst 0 P = 0 ∧ i = 7 then hd S 0 else rd l (i : Int) := fun i hi => by
    rw [reg_word h.ok.may hO4.len hb z7 hi, reg_word h.ok.may hO3.len hb z6 hi, hr3 i hi, hr2 i hi, reg_word h.ok.may h.ok.len hb zz hi]
  have hw : ∀ c u : Int, 0 ≤ c ∧ c < (n : Int) → 0 ≤ u ∧ u < 16 → word 16 1 (((l3.set (wp 16 1 b 6) 0).set (wp 16 1 b 7) 0).set 9 ((P ++ S).length : Int)) c u = if b = c ∧ 7 = u then 0 else if b = c ∧ 6 = u then 0 else if c + 1 = hd S 0 ∧ u = 6 then lst 0 P else if c + 1 = lst 0 P ∧ u = 7 then hd S 0 else if b = c ∧ 0 = u then basev (rd ks b) + 64 * 0 else word 16 1 l c u := fun c u hc hu => by
    rw [word_reg h.ok.may hO5.len hc hu (by decide), word_set h.ok.may hO4.len hb hc z7 hu, word_set h.ok.may hO3.len hb hc z6 hu, hw3 c u hc hu, hw2 c u hc hu, word_set h.ok.may h.ok.len hb hc zz hu]
  have w6 : word 16 1 (l.set (wp 16 1 b 0) (basev (rd ks b) + 64 * 0)) b 6 = lst 0 P := by rw [word_set h.ok.may h.ok.len hb hb zz z6, if_neg (by omega)]; exact r3
  have w7 : word 16 1 (l.set (wp 16 1 b 0) (basev (rd ks b) + 64 * 0)) b 7 = hd S 0 := by rw [word_set h.ok.may h.ok.len hb hb zz z7, if_neg (by omega)]; exact r4
  have disj : ∀ x, x ∈ P → x ∈ S → False := fun x h1 h2 => nPS x h1 x (by simp [h2]) rfl
  refine ⟨(IntKind.u64.wrap ((IntKind.u64.wrap ((IntKind.u64.wrap ((IntKind.u64.wrap ((IntKind.u64.wrap ((IntKind.u64.wrap ((IntKind.u64.wrap ((IntKind.u64.wrap ((IntKind.u64.wrap ((IntKind.u64.wrap (m + 1)) + 1)) + 1)) + 1)) + 1)) + 1)) + 1)) + 1)) + 1)) + 1)), _, ?_, ⟨hO6, fun x hx => ?_, ?_, fun c hc => ?_, h.heads, fun x hx => ?_, h.hm, h.small, ?_, ?_, ?_, ?_⟩, ⟨?_, ?_, ?_⟩⟩
  · unfold ring_Cut.f
    refine Eq.trans (bind_is (marked_head h m hbH 1) _) ?_
    dsimp only
    rw [if_pos hbm]
    rw [if_pos (show ((1 : Int) == 1) = true from rfl)]
    refine Eq.trans (bind_is (mark_at h.ok _ k hk hb hh' 1 0 (Or.inl rfl)) _) ?_
    dsimp only
    refine Eq.trans (bind_is (Word_at hO1 _ hb z6) _) ?_
    dsimp only
    refine Eq.trans (bind_is (Word_at hO1 _ hb z7) _) ?_
    dsimp only
    rw [w6, w7, wrap64_id (n := lst 0 P) (by omega) (by omega), wrap64_id (n := hd S 0) (by omega) (by omega)]
    refine Eq.trans (bind_is e2 _) ?_
    dsimp only
    refine Eq.trans (bind_is e3 _) ?_
    dsimp only
    refine Eq.trans (bind_is (SetWord_at hO3 _ hb z6 0) _) ?_
    dsimp only
    refine Eq.trans (bind_is (SetWord_at hO4 _ hb z7 0) _) ?_
    dsimp only
    refine Eq.trans (bind_is (Reg_at hO5 _ (i := 9) (by decide)) _) ?_
    dsimp only
    rw [hr 9 (by decide), if_neg (by omega), if_neg (by omega), h.count, hlen, wrap64_id (n := (((P ++ S).length + 1 : Nat) : Int) - 1) (by omega) (by omega), show (((P ++ S).length + 1 : Nat) : Int) - 1 = ((P ++ S).length : Int) by omega]
    exact bind_is (SetReg_at hO5 _ (i := 9) (by decide) _ (by omega)) _
  · rcases List.mem_append.1 hx with hx | hx
    · exact hP x hx
    · exact hS x hx
  · exact List.nodup_append.2 ⟨nP, nS, fun x h1 y h2 e => disj x h1 (e ▸ h2)⟩
  · rw [hw c 0 (h.hm c hc) zz, if_neg (by omega), if_neg (by omega), if_neg (by omega), if_neg (by omega)]
    by_cases e : b = c
    · subst e
      rw [if_pos ⟨rfl, rfl⟩, if_neg (by
        intro q
        rcases List.mem_append.1 q with q | q
        · exact bP q
        · exact nb q)]
    · rw [if_neg (fun q => e q.1), h.tags c hc]
      by_cases f : c ∈ P ++ S
      · rw [if_pos f, if_pos (by simp at f ⊢; rcases f with f | f; exact Or.inl f; exact Or.inr (Or.inr f))]
      · rw [if_neg f, if_neg (by simp at f ⊢; exact ⟨f.1, fun q => e q.symm, f.2⟩)]
  · rcases List.mem_append.1 hx with hx | hx
    · exact h.sub x (by simp [hx])
    · exact h.sub x (by simp [hx])
  · rw [reg_reg h.ok.may hO5.len (by decide), if_neg (by decide), hr 7 (by decide), if_neg (by omega), h.first, hd_app, hd_app]
    by_cases e : lst 0 P = 0
    · rw [if_pos ⟨e, rfl⟩, hq.2.2 e]; rfl
    · rw [if_neg (fun q => e q.1)]
      cases P with
      | nil => exact absurd rfl e
      | cons a t => rfl
  · rw [reg_reg h.ok.may hO5.len (by decide), if_neg (by decide), hr 8 (by decide), lst_app]
    by_cases e : hd S 0 = 0
    · rw [if_pos ⟨e, rfl⟩, hh.2.2 e]; rfl
    · rw [if_neg (fun q => e q.1), if_neg (by omega), h.last, lst_app]
      cases S with
      | nil => exact absurd rfl e
      | cons a t => rfl
  · rw [reg_reg h.ok.may hO5.len (by decide), if_pos rfl]
  · rw [RLe.app]
    refine ⟨RLe.next nP (fun x hx => ?_) (fun x hx hqq => ?_) (fun x hx hqq => ?_) r1, ?_⟩
    · have hx0 := hP x hx
      have hbx : ¬ b = x := fun e => bP (e ▸ hx)
      rw [hw x 6 hx0 z6, if_neg (by omega), if_neg (fun q => hbx q.1), if_neg (fun q => disj x hx (headS hx0.1 q.1)), if_neg (by omega), if_neg (by omega)]
    · have hx0 := hP x hx
      have hbx : ¬ b = x := fun e => bP (e ▸ hx)
      rw [hw x 7 hx0 z7, if_neg (fun q => hbx q.1), if_neg (by omega), if_neg (by omega), if_neg (fun q => hqq q.1), if_neg (by omega)]
    · have hx0 := hP x hx
      have hbx : ¬ b = x := fun e => bP (e ▸ hx)
      rw [hw x 7 hx0 z7, if_neg (fun q => hbx q.1), if_neg (by omega), if_neg (by omega), if_pos ⟨hqq, rfl⟩]
    · cases S with
      | nil => trivial
      | cons a t =>
        obtain ⟨na, nt⟩ := List.nodup_cons.1 nS
        have ha := hS a (by simp)
        have nab : ¬ b = a := fun e => nb (by simp [e])
        refine ⟨?_, ?_, RLe.same (fun x hx => ?_) r5.2.2⟩
        · rw [hw a 6 ha z6, if_neg (by omega), if_neg (fun q => nab q.1), if_pos ⟨rfl, rfl⟩]
        · rw [hw a 7 ha z7, if_neg (fun q => nab q.1), if_neg (by omega), if_neg (by omega), if_neg (fun q => disj a (lastL ha.1 q.1) (by simp)), if_neg (by omega)]; exact r5.2.1
        · have hx0 := hS x (by simp [hx])
          have nbx : ¬ b = x := fun e => nb (by rw [e]; simp [hx])
          have nax : ¬ x + 1 = hd (a :: t) 0 := fun q => by
            have q' : x + 1 = a + 1 := q
            have : x = a := by omega
            exact na (this ▸ hx)
          constructor
          · rw [hw x 6 hx0 z6, if_neg (by omega), if_neg (fun q => nbx q.1), if_neg (fun q => nax q.1), if_neg (by omega), if_neg (by omega)]
          · rw [hw x 7 hx0 z7, if_neg (fun q => nbx q.1), if_neg (by omega), if_neg (by omega), if_neg (fun q => disj x (lastL hx0.1 q.1) (by simp [hx])), if_neg (by omega)]
  · intro c u hc hu h0 h6 h7
    rw [hw c u hc hu, if_neg (fun q => h7 q.2.symm), if_neg (fun q => h6 q.2.symm), if_neg (fun q => h6 q.2), if_neg (fun q => h7 q.2), if_neg (fun q => h0 q.2.symm)]
  · intro c u hc hu hcH
    have hcb : ¬ b = c := fun q => hcH (q ▸ hbH)
    have hcS : c ∉ S := fun q => hcH (h.sub c (by simp [q]))
    have hcP : c ∉ P := fun q => hcH (h.sub c (by simp [q]))
    rw [hw c u hc hu, if_neg (fun q => hcb q.1), if_neg (fun q => hcb q.1), if_neg (fun q => hcS (headS hc.1 q.1)), if_neg (fun q => hcP (lastL hc.1 q.1)), if_neg (fun q => hcb q.1)]
  · intro i hi h7 h8 h9
    rw [reg_reg h.ok.may hO5.len (by decide), if_neg (fun q => h9 q.symm), hr i hi, if_neg (fun q => h8 q.2), if_neg (fun q => h7 q.2)]
theorem take_ring {n : Nat} (hs : n < 1000) {Hs ks l S : List Int} {b : Int} (h : Ring n Hs ks l (b :: S)) (m : Int) (k : Nat) (hk : 60 ≤ k) :
    ∃ m' l', ring_Take.f k l m (n : Int) 16 1 1 = some (b, true, m', l') ∧ Ring n Hs ks l' S ∧ RF n Hs l l' := by
  have hb := h.mem b (by simp)
  obtain ⟨m1, l1, e1, h1, ha⟩ := cut_ring (P := []) hs h (IntKind.u64.wrap (m + 1)) k hk
  refine ⟨m1, l1, ?_, h1, ha⟩
  unfold ring_Take.f
  refine Eq.trans (bind_is (Reg_at h.ok m (i := 7) (by decide)) _) ?_
  dsimp only
  rw [h.first, show hd (b :: S) 0 = b + 1 from rfl, if_neg (by omega), wrap64_id (n := b + 1 - 1) (by omega) (by omega), show b + 1 - 1 = b by omega]
  refine Eq.trans (bind_is e1 _) ?_
  dsimp only
  rw [if_pos rfl]
theorem take_ring_none {n : Nat} {Hs ks l : List Int} (h : Ring n Hs ks l []) (m : Int) (k : Nat) : ∃ m', ring_Take.f k l m (n : Int) 16 1 1 = some (0, false, m', l) := by
  refine ⟨IntKind.u64.wrap (m + 1), ?_⟩
  unfold ring_Take.f
  refine Eq.trans (bind_is (Reg_at h.ok m (i := 7) (by decide)) _) ?_
  dsimp only
  rw [h.first, if_pos (show hd [] 0 = 0 from rfl)]
abbrev O4 : Type := Int × List Int × Int × Int
def blocksOf (o : O4) : List Int := o.1 :: o.2.1
theorem flat_uniq {f : O4 → List Int} : ∀ {Rs : List O4}, (Rs.flatMap f).Nodup → ∀ {o o' : O4} {x : Int}, o ∈ Rs → o' ∈ Rs → x ∈ f o → x ∈ f o' → o = o'
  | [], _, o, o', x, h, _, _, _ => by cases h
  | a :: Rs, hn, o, o', x, h, h', hx, hx' => by
    rw [List.flatMap_cons] at hn
    obtain ⟨n1, n2, n3⟩ := List.nodup_append.1 hn
    rcases List.mem_cons.1 h with e1 | h1
    · rcases List.mem_cons.1 h' with e2 | h2
      · rw [e1, e2]
      · exact absurd rfl (n3 x (e1 ▸ hx) x (List.mem_flatMap.2 ⟨o', h2, hx'⟩))
    · rcases List.mem_cons.1 h' with e2 | h2
      · exact absurd rfl (n3 x (e2 ▸ hx') x (List.mem_flatMap.2 ⟨o, h1, hx⟩))
      · exact flat_uniq n2 h1 h2 hx hx'
/-- Objects that were made, and the clean blocks. -/
structure RI (n : Nat) (Rs : List O4) (Rest l : List Int) : Prop where
  ok : OK (n : Int) 16 1 1 l
  pool : Chain (n : Int) 16 1 l 0 Rest
  none3 : Chain (n : Int) 16 1 l 3 []
  objs : ∀ o ∈ Rs, Obj n l o.1 o.2.1 o.2.2.1 o.2.2.2 ∧ word 16 1 l o.1 3 = 0 ∧ word 16 1 l o.1 0 = (if o.2.1 = [] then 1 else 2)
  nd : (Rs.flatMap blocksOf ++ Rest).Nodup
  all : (Rs.flatMap blocksOf).length + Rest.length = n
  regs : ∀ i : Nat, i < 24 → 2 < i → rd l (i : Int) = 0
theorem RI.uniq {n : Nat} {Rs : List O4} {Rest l : List Int} (I : RI n Rs Rest l) {o o' : O4} {x : Int} (h : o ∈ Rs) (h' : o' ∈ Rs) (hx : x ∈ blocksOf o) (hx' : x ∈ blocksOf o') : o = o' :=
  flat_uniq (List.nodup_append.1 I.nd).1 h h' hx hx'
theorem RI.clean {n : Nat} {Rs : List O4} {Rest l : List Int} (I : RI n Rs Rest l) {o : O4} {x : Int} (h : o ∈ Rs) (hx : x ∈ blocksOf o) : x ∉ Rest :=
  fun q => (List.nodup_append.1 I.nd).2.2 x (List.mem_flatMap.2 ⟨o, h, hx⟩) x q rfl
theorem RI.put {n : Nat} {Rs : List O4} {Rest l : List Int} (I : RI n Rs Rest l) {o : O4} (ho : o ∈ Rs) {j : Int} (g0 : 0 ≤ j) (g1 : j < o.2.2.1 + o.2.2.2) (v : Int) (h0 : 0 ≤ v) (h1 : v < 4294967296) : RI n Rs Rest (l.set (wp 16 1 (fblock o.1 o.2.1 j) (fword o.2.1 j)) v) := by
  have oo := (I.objs o ho).1
  have hb := fblock_ok oo g0 g1
  have hw := fword_ok oo g0 g1
  obtain ⟨p1, p2, p3, p4, p5, p6⟩ := field_ok oo g0 g1
  have hcl := I.clean ho p1
  refine ⟨I.ok.set _ v h0 h1, Chain.word I.ok.may I.ok.len (by decide) hb hw (Or.inr hcl) v I.pool, Chain.word I.ok.may I.ok.len (by decide) hb hw (Or.inr (by simp)) v I.none3, fun o' ho' => ?_, I.nd, I.all, fun i hi h2 => ?_⟩
  · obtain ⟨q1, q2, q3⟩ := I.objs o' ho'
    have low : ∀ w : Int, 0 ≤ w ∧ w < 8 → word 16 1 (l.set (wp 16 1 (fblock o.1 o.2.1 j) (fword o.2.1 j)) v) o'.1 w = word 16 1 l o'.1 w := fun w hw8 => by
      rw [word_set I.ok.may I.ok.len hb (q1.mem o'.1 (by simp)) hw (by omega), if_neg]
      intro e
      have hm : o'.1 ∈ blocksOf o := by rw [← e.1]; exact p1
      have := I.uniq ho ho' hm (by simp [blocksOf])
      subst this
      have := p4 e.1
      omega
    refine ⟨?_, by rw [low 3 (by decide)]; exact q2, by rw [low 0 (by decide)]; exact q3⟩
    by_cases e : o' = o
    · rw [e]; exact (Obj.put I.ok oo g0 g1 v).1
    · exact (Obj.far I.ok q1 hb hw (fun q => e (I.uniq ho' ho q p1)) v).1
  · rw [reg_word I.ok.may I.ok.len hb hw hi]; exact I.regs i hi h2
theorem RI.make {n : Nat} (hs : n ≤ 60) {Rs : List O4} {Rest l : List Int} (I : RI n Rs Rest l) (P D m : Int) (k : Nat) (hk : 900 ≤ k) :
    (∃ e m', obj_Make.f k l m (n : Int) 16 1 1 P D = some (0, e, m', l) ∧ e ≠ 0) ∨
    (∃ h B Rest' m' l', obj_Make.f k l m (n : Int) 16 1 1 P D = some (h + 1, 0, m', l') ∧ RI n (Rs ++ [(h, B, P, D)]) Rest' l') := by
  rcases make_any hs P D I.ok I.pool I.none3 m k hk with ⟨e, m', h1, h2⟩ | ⟨h, B, Rest', m', l', hL, e, hO', hL', hM', o, h3, ht, hw, hr⟩
  · exact Or.inl ⟨e, m', h1, h2⟩
  · right
    have hn := I.nd
    rw [hL] at hn
    have hall := I.all
    rw [hL] at hall
    have hfl : (Rs ++ [(h, B, P, D)]).flatMap blocksOf ++ Rest' = Rs.flatMap blocksOf ++ (h :: (B ++ Rest')) := by
      rw [List.flatMap_append, List.append_assoc]
      simp [blocksOf]
    refine ⟨h, B, Rest', m', l', e, hO', hL', hM', fun o' ho' => ?_, by rw [hfl]; exact hn, ?_, fun i hi h2 => by rw [hr i hi h2]; exact I.regs i hi h2⟩
    · rcases List.mem_append.1 ho' with ho' | ho'
      · obtain ⟨q1, q2, q3⟩ := I.objs o' ho'
        have far : ∀ x ∈ blocksOf o', x ≠ h ∧ x ∉ B := fun x hx => by
          have := I.clean ho' hx
          rw [hL] at this
          simp only [List.mem_cons, List.mem_append, not_or] at this
          exact ⟨this.1, this.2.1⟩
        have f1 := far o'.1 (by simp [blocksOf])
        have hm := q1.mem o'.1 (by simp)
        exact ⟨q1.frame fun x w hx hw2 h5 _ => hw x w (q1.mem x hx) hw2 h5 (far x hx).1 (far x hx).2, by rw [hw _ 3 hm z3 (by decide) f1.1 f1.2]; exact q2, by rw [hw _ 0 hm zz (by decide) f1.1 f1.2]; exact q3⟩
      · rw [List.mem_singleton] at ho'
        subst ho'
        exact ⟨o, h3, ht⟩
    · have := congrArg List.length hfl
      simp only [List.length_append, List.length_cons] at this hall ⊢
      omega
def refsOf (Rs : List O4) : List Int := Rs.map fun o => o.1 + 1
theorem refs_len (Rs : List O4) : (refsOf Rs).length = Rs.length := by unfold refsOf; simp
theorem refs_rd (Rs : List O4) (j : Nat) (h : j < Rs.length) : rd (refsOf Rs) (j : Int) = (Rs[j]).1 + 1 := by
  rw [rd_nat (refsOf Rs) j (by rw [refs_len]; exact h)]
  exact List.getElem_map _
theorem RI.few {n : Nat} {Rs : List O4} {Rest l : List Int} (I : RI n Rs Rest l) : Rs.length ≤ n := by
  have h1 : ∀ X : List O4, X.length ≤ (X.flatMap blocksOf).length := by
    intro X
    induction X with
    | nil => simp
    | cons a X ih => rw [List.flatMap_cons, List.length_append, List.length_cons]; simp only [blocksOf, List.length_cons] at ih ⊢; omega
  have := h1 Rs
  have := I.all
  omega
theorem rows_lo0 {n : Nat} (hs : n ≤ 60) (X : List (Int × Int)) (hX : X.length ≤ 20) (v : Int) (ws : List Int) : ∀ (d k j : Nat) (Rs : List O4) (Rest l : List Int) (m : Int), RI n Rs Rest l → j + d = X.length → d + 1000 < k →
    ∃ Rs' Rest' l' m', quitrenttop_WholeRows.lo0 k X v ((n : Int), 16, 1, 1, ws) ((Rs.flatMap blocksOf).length : Int) (j : Int) (refsOf Rs) l m = some (((Rs'.flatMap blocksOf).length : Int), refsOf Rs', l', m') ∧ RI n Rs' Rest' l' := by
  intro d
  induction d with
  | zero =>
    intro k j Rs Rest l m I hj hk
    obtain ⟨k, rfl⟩ : ∃ q, k = q + 1 := ⟨k - 1, by omega⟩
    exact ⟨Rs, Rest, l, m, by rw [quitrenttop_WholeRows.lo0, if_neg (by omega)], I⟩
  | succ d ih =>
    intro k j Rs Rest l m I hj hk
    obtain ⟨k, rfl⟩ : ∃ q, k = q + 1 := ⟨k - 1, by omega⟩
    have hall := I.all
    have hfew := I.few
    rw [quitrenttop_WholeRows.lo0, if_pos (by omega), if_pos (by omega), next_i j (by omega)]
    dsimp only
    rcases I.make hs (rdOf (0, 0) X (j : Int)).1 (rdOf (0, 0) X (j : Int)).2 m k (by omega) with ⟨e, m1, e1, e2⟩ | ⟨h, B, Rest', m1, l1, e1, I1⟩
    · obtain ⟨Rs', Rest', l', m', e, hf⟩ := ih k (j + 1) Rs Rest l m1 I (by omega) (by omega)
      refine ⟨Rs', Rest', l', m', ?_, hf⟩
      refine Eq.trans (bind_is e1 _) ?_
      dsimp only
      rw [if_neg e2]
      exact e
    · generalize hP : (rdOf (0, 0) X (j : Int)).1 = P at *
      generalize hD : (rdOf (0, 0) X (j : Int)).2 = D at *
      have hmem : (h, B, P, D) ∈ Rs ++ [(h, B, P, D)] := by simp
      have o1 := (I1.objs _ hmem).1
      have hh := o1.mem h (by simp)
      have hf : 0 ≤ P ∧ 0 ≤ D ∧ P + D ≤ 120 := o1.fits
      obtain ⟨m2, e2⟩ := SetPtr_at hs I1.ok o1 (up (up (up m1))) (i := 0) (x := h + 1) (by omega) k (by omega)
      obtain ⟨l2, e2', I2⟩ : ∃ l2, obj_SetPtr.f k l1 (up (up (up m1))) (n : Int) 16 1 1 (h + 1) 0 (h + 1) = some ((if 0 < P then 0 else 7), m2, l2) ∧ RI n (Rs ++ [(h, B, P, D)]) Rest' l2 := by
        by_cases c : 0 ≤ (0 : Int) ∧ 0 < P
        · exact ⟨_, by rw [e2, if_pos c, if_pos c.2], I1.put hmem (Int.le_refl 0) (by show 0 < P + D; omega) (h + 1) (by omega) (by omega)⟩
        · exact ⟨_, by rw [e2, if_neg c, if_neg (fun q => c ⟨Int.le_refl 0, q⟩)], I1⟩
      have o2 := (I2.objs _ hmem).1
      have hv : 0 ≤ (v + (j : Int)) % 4294967296 ∧ (v + (j : Int)) % 4294967296 < 4294967296 := by omega
      obtain ⟨m3, e3⟩ := SetData_at hs I2.ok o2 m2 (i := 0) (v := (v + (j : Int)) % 4294967296) k (by omega)
      obtain ⟨l3, c3, e3', I3⟩ : ∃ l3 c3, obj_SetData.f k l2 m2 (n : Int) 16 1 1 (h + 1) 0 ((v + (j : Int)) % 4294967296) = some (c3, m3, l3) ∧ RI n (Rs ++ [(h, B, P, D)]) Rest' l3 := by
        by_cases c : 0 ≤ (0 : Int) ∧ 0 < D
        · exact ⟨_, 0, by rw [e3, if_pos c], I2.put hmem (j := P + 0) (by show 0 ≤ P + 0; omega) (by show P + 0 < P + D; omega) _ hv.1 hv.2⟩
        · exact ⟨_, 7, by rw [e3, if_neg c], I2⟩
      have hrefs : refsOf Rs ++ [h + 1] = refsOf (Rs ++ [(h, B, P, D)]) := by unfold refsOf; simp
      have hlen : ((Rs.flatMap blocksOf).length : Int) + (1 + (B.length : Int)) = (((Rs ++ [(h, B, P, D)]).flatMap blocksOf).length : Int) := by
        rw [List.flatMap_append, List.length_append]
        simp [blocksOf]
        omega
      have hall1 := I1.all
      obtain ⟨Rs', Rest'', l', m', e, hf2⟩ := ih k (j + 1) (Rs ++ [(h, B, P, D)]) Rest' l3 m3 I3 (by omega) (by omega)
      refine ⟨Rs', Rest'', l', m', ?_, hf2⟩
      refine Eq.trans (bind_is e1 _) ?_
      dsimp only
      rw [if_pos rfl, if_pos (by rw [refs_len]; omega)]
      refine Eq.trans (bind_is rfl _) ?_
      refine Eq.trans (bind_is (o1.hd.blocks hs I1.ok m1 k (by omega)) _) ?_
      dsimp only
      refine Eq.trans (bind_is e2' _) ?_
      dsimp only
      refine Eq.trans (bind_is e3' _) ?_
      dsimp only
      rw [hrefs, hlen, wrap64_id (n := (((Rs ++ [(h, B, P, D)]).flatMap blocksOf).length : Int)) (by omega) (by omega)]
      exact e
def seenOf (l : List Int) (o : O4) : List Int × List Int := (ptrsv l o.1 o.2.1 o.2.2.1.toNat, datav l o.1 o.2.1 o.2.2.1 o.2.2.2.toNat)
theorem rows_lo1 {n : Nat} (hs : n ≤ 60) {Rs : List O4} {Rest l : List Int} (I : RI n Rs Rest l) (ws : List Int) (sm m : Int) : ∀ (d k j : Nat), j + d = Rs.length → d + 300 < k →
    quitrenttop_WholeRows.lo1 k ((n : Int), 16, 1, 1, ws) (sm, refsOf Rs, l, m) (j : Int) ((Rs.take j).map (seenOf l)) = some (Rs.map (seenOf l)) := by
  have hfew := I.few
  intro d
  induction d with
  | zero =>
    intro k j hj hk
    obtain ⟨k, rfl⟩ : ∃ q, k = q + 1 := ⟨k - 1, by omega⟩
    rw [quitrenttop_WholeRows.lo1, if_neg (by dsimp only; rw [refs_len]; omega), List.take_of_length_le (by omega)]
  | succ d ih =>
    intro k j hj hk
    obtain ⟨k, rfl⟩ : ∃ q, k = q + 1 := ⟨k - 1, by omega⟩
    have hjl : j < Rs.length := by omega
    have o := (I.objs (Rs[j]) (List.getElem_mem hjl)).1
    rw [quitrenttop_WholeRows.lo1, if_pos (by dsimp only; rw [refs_len]; omega), if_pos (by omega)]
    dsimp only
    rw [refs_rd Rs j hjl]
    refine Eq.trans (bind_is (see_at hs I.ok o m k (by omega)) _) ?_
    dsimp only
    rw [if_pos (by rw [List.length_map, List.length_take]; omega)]
    refine Eq.trans (bind_is rfl _) ?_
    rw [next_i j (by omega)]
    have := ih k (j + 1) (by omega) (by omega)
    rw [List.take_succ_eq_append_getElem hjl, List.map_append] at this
    exact this
def ksOf (n : Nat) (l1 : List Int) : List Int := (List.range n).map fun b : Nat => word 16 1 l1 (b : Int) 0
theorem ks_rd {n : Nat} (l1 : List Int) {b : Int} (hb : 0 ≤ b ∧ b < (n : Int)) : rd (ksOf n l1) b = word 16 1 l1 b 0 := by
  obtain ⟨i, rfl⟩ := Int.eq_ofNat_of_zero_le hb.1
  have hl : (ksOf n l1).length = n := by unfold ksOf; simp
  rw [rd_nat (ksOf n l1) i (by omega)]
  refine (List.getElem_map (fun b : Nat => word 16 1 l1 (b : Int) 0) (l := List.range n) (i := i) (h := by simp; omega)).trans ?_
  rw [List.getElem_range]
def headsOf (Rs : List O4) : List Int := Rs.map fun o => o.1
theorem heads_sub : ∀ Rs : List O4, (headsOf Rs).Sublist (Rs.flatMap blocksOf)
  | [] => .slnil
  | a :: Rs => by
    rw [List.flatMap_cons]
    show (a.1 :: headsOf Rs).Sublist (a.1 :: (a.2.1 ++ Rs.flatMap blocksOf))
    exact ((heads_sub Rs).trans (List.sublist_append_right _ _)).cons_cons _
theorem heads_mem {Rs : List O4} {b : Int} (h : b ∈ headsOf Rs) : ∃ o ∈ Rs, o.1 = b := by
  unfold headsOf at h
  obtain ⟨o, ho, e⟩ := List.mem_map.1 h
  exact ⟨o, ho, e⟩
theorem mem_heads {Rs : List O4} {o : O4} (h : o ∈ Rs) : o.1 ∈ headsOf Rs := List.mem_map.2 ⟨o, h, rfl⟩
theorem RI.leafs {n : Nat} {Rs : List O4} {Rest l : List Int} (I : RI n Rs Rest l) {o : O4} {x : Int} (h : o ∈ Rs) (hx : x ∈ o.2.1) : x ∉ headsOf Rs := fun q => by
  obtain ⟨o', ho', e⟩ := heads_mem q
  have := I.uniq ho' h (x := x) (by rw [← e]; simp [blocksOf]) (by simp [blocksOf, hx])
  subst this
  have hn := (List.nodup_cons.1 (I.objs _ h).1.nd).1
  exact hn (by rw [e]; exact hx)
/-- While rings and counts change: what stays, and how the counts are. -/
structure RW (n : Nat) (Rs : List O4) (l1 : List Int) (t : Nat) (l L ups : List Int) : Prop where
  ring : Ring n (headsOf Rs) (ksOf n l1) l L
  same : ∀ c w : Int, 0 ≤ c ∧ c < (n : Int) → 0 ≤ w ∧ w < 16 → ¬ (c ∈ headsOf Rs ∧ (w = 0 ∨ w = 3 ∨ w = 6 ∨ w = 7)) → word 16 1 l c w = word 16 1 l1 c w
  len : ups.length = Rs.length
  cnt : ∀ (j : Nat) (h : j < Rs.length), word 16 1 l (Rs[j]).1 3 = rd ups (j : Int)
  small : ∀ j : Nat, j < Rs.length → 0 ≤ rd ups (j : Int) ∧ rd ups (j : Int) ≤ (t : Int)
  regs : ∀ i : Nat, i < 24 → i ≠ 7 → i ≠ 8 → i ≠ 9 → rd l (i : Int) = rd l1 (i : Int)
theorem RW.mono {n : Nat} {Rs : List O4} {l1 : List Int} {t : Nat} {l L ups : List Int} (w : RW n Rs l1 t l L ups) : RW n Rs l1 (t + 1) l L ups :=
  ⟨w.ring, w.same, w.len, w.cnt, fun j h => by have := w.small j h; omega, w.regs⟩
theorem RW.turn {n : Nat} {Rs : List O4} {l1 : List Int} {t : Nat} {l L ups l' L' : List Int} (w : RW n Rs l1 t l L ups) (hr : Ring n (headsOf Rs) (ksOf n l1) l' L') (hf : RF n (headsOf Rs) l l') : RW n Rs l1 (t + 1) l' L' ups := by
  refine ⟨hr, fun c u hc hu hn => ?_, w.len, fun j h => ?_, fun j h => by have := w.small j h; omega, fun i h1 h2 h3 h4 => by rw [hf.regs i h1 h2 h3 h4]; exact w.regs i h1 h2 h3 h4⟩
  · by_cases e : c ∈ headsOf Rs
    · rw [hf.far c u hc hu (fun q => hn ⟨e, Or.inl q⟩) (fun q => hn ⟨e, Or.inr (Or.inr (Or.inl q))⟩) (fun q => hn ⟨e, Or.inr (Or.inr (Or.inr q))⟩)]
      exact w.same c u hc hu hn
    · rw [hf.out c u hc hu e]
      exact w.same c u hc hu hn
  · rw [hf.far _ 3 (hr.hm _ (mem_heads (List.getElem_mem h))) z3 (by decide) (by decide) (by decide)]
    exact w.cnt j h
theorem base12 {x : Int} (h : x = 1 ∨ x = 2) : basev x = x ∧ isHd x ∧ 0 ≤ x ∧ x ≤ 255 := by
  rcases h with rfl | rfl <;> refine ⟨by decide, ?_, by decide, by decide⟩ <;> unfold isHd <;> decide
theorem tag12 (B : List Int) : (if B = [] then (1 : Int) else 2) = 1 ∨ (if B = [] then (1 : Int) else 2) = 2 := by by_cases e : B = [] <;> simp [e]
theorem RW.start {n : Nat} {Rs : List O4} {Rest l1 : List Int} (I : RI n Rs Rest l1) : RW n Rs l1 0 l1 [] (List.replicate Rs.length 0) := by
  have hm : ∀ b ∈ headsOf Rs, 0 ≤ b ∧ b < (n : Int) := fun b hb => by
    obtain ⟨o, ho, rfl⟩ := heads_mem hb
    exact (I.objs o ho).1.mem _ (by simp)
  have h12 : ∀ b ∈ headsOf Rs, rd (ksOf n l1) b = word 16 1 l1 b 0 ∧ (word 16 1 l1 b 0 = 1 ∨ word 16 1 l1 b 0 = 2) := fun b hb => by
    obtain ⟨o, ho, rfl⟩ := heads_mem hb
    refine ⟨ks_rd l1 (hm _ hb), ?_⟩
    rw [(I.objs o ho).2.2]
    exact tag12 _
  have hz : ∀ j : Nat, rd (List.replicate Rs.length (0 : Int)) (j : Int) = 0 := fun j => by
    simp only [rd, List.getD_eq_getElem?_getD, List.getElem?_replicate]
    split <;> rfl
  refine ⟨⟨I.ok, by simp, by simp, fun b hb => ?_, fun b hb => ?_, by simp, hm, fun b hb => ?_, I.regs 7 (by decide) (by decide), I.regs 8 (by decide) (by decide), I.regs 9 (by decide) (by decide), trivial⟩, fun _ _ _ _ _ => rfl, by simp, fun j h => ?_, fun j h => by rw [hz]; exact ⟨Int.le_refl _, Int.le_refl _⟩, fun _ _ _ _ _ => rfl⟩
  · obtain ⟨e, f⟩ := h12 b hb
    rw [e, (base12 f).1, if_neg (by simp)]; omega
  · obtain ⟨e, f⟩ := h12 b hb
    rw [e]; exact (base12 f).2.1
  · obtain ⟨e, f⟩ := h12 b hb
    rw [e]; exact (base12 f).2.2
  · rw [hz]; exact (I.objs _ (List.getElem_mem h)).2.1
theorem RW.obj {n : Nat} {Rs : List O4} {Rest l1 : List Int} (I : RI n Rs Rest l1) {t : Nat} {l L ups : List Int} (w : RW n Rs l1 t l L ups) {o : O4} (ho : o ∈ Rs) : Obj n l o.1 o.2.1 o.2.2.1 o.2.2.2 ∧ ∀ i : Int, 0 ≤ i → i < o.2.2.1 + o.2.2.2 → fieldv l o.1 o.2.1 i = fieldv l1 o.1 o.2.1 i := by
  obtain ⟨o1, _, ht⟩ := I.objs o ho
  have hh := o1.mem o.1 (by simp)
  have h8 := o1.few
  constructor
  · refine ⟨o1.fits, o1.size, o1.nd, o1.mem, ?_, ?_, ?_, fun s hs => ?_, fun x hx => ?_⟩
    · rw [w.ring.tags o.1 (mem_heads ho), ks_rd l1 hh, ht, (base12 (tag12 _)).1]
      have := tag12 o.2.1
      by_cases e : o.1 ∈ L
      · rw [if_pos e]; omega
      · rw [if_neg e]; omega
    · rw [w.same o.1 1 hh z1 (by omega)]; exact o1.p1
    · rw [w.same o.1 2 hh z2 (by omega)]; exact o1.p2
    · rw [w.same o.1 _ hh (by omega) (by omega)]; exact o1.leaf s hs
    · rw [w.same x 0 (o1.mem x (List.mem_cons_of_mem _ hx)) zz (fun q => I.leafs ho hx q.1)]; exact o1.ltag x hx
  · intro i h0 h1
    refine field_same o1 (fun c u hc hu h9 => w.same c u (o1.mem c hc) hu (fun q => ?_)) h0 h1
    rcases List.mem_cons.1 hc with e | e
    · have := h9 e; omega
    · exact I.leafs ho e q.1
theorem Ring.set3 {n : Nat} {Hs ks l L : List Int} (h : Ring n Hs ks l L) {b : Int} (hb : 0 ≤ b ∧ b < (n : Int)) (v : Int) (h0 : 0 ≤ v) (h1 : v < 4294967296) : Ring n Hs ks (l.set (wp 16 1 b 3) v) L := by
  have wd : ∀ c w : Int, 0 ≤ c ∧ c < (n : Int) → 0 ≤ w ∧ w < 16 → w ≠ 3 → word 16 1 (l.set (wp 16 1 b 3) v) c w = word 16 1 l c w := fun c w hc hw e => by
    rw [word_set h.ok.may h.ok.len hb hc z3 hw, if_neg (fun q => e q.2.symm)]
  exact ⟨h.ok.set _ v h0 h1, h.mem, h.nd, fun c hc => by rw [wd c 0 (h.hm c hc) zz (by decide)]; exact h.tags c hc, h.heads, h.sub, h.hm, h.small,
    by rw [reg_word h.ok.may h.ok.len hb z3 (by decide)]; exact h.first, by rw [reg_word h.ok.may h.ok.len hb z3 (by decide)]; exact h.last, by rw [reg_word h.ok.may h.ok.len hb z3 (by decide)]; exact h.count,
    RLe.same (fun x hx => ⟨wd x 6 (h.mem x hx) z6 (by decide), wd x 7 (h.mem x hx) z7 (by decide)⟩) h.links⟩
theorem rdl_set (l : List Int) (i j : Nat) (v : Int) (h : i < l.length) : rd (l.set i v) (j : Int) = if i = j then v else rd l (j : Int) := by
  simp only [rd, Int.toNat_natCast, List.getD_eq_getElem?_getD, List.getElem?_set]
  by_cases e : i = j
  · rw [if_pos e, if_pos h, if_pos e]; rfl
  · rw [if_neg e, if_neg e]
theorem RW.count {n : Nat} (hs : n ≤ 60) {Rs : List O4} {Rest l1 : List Int} (I : RI n Rs Rest l1) {t : Nat} (ht : t < 1000) {l L ups : List Int} (w : RW n Rs l1 t l L ups) (q : Nat) (hq : q < Rs.length) (m : Int) :
    ∃ m' l', count_Up.f l m (n : Int) 16 1 1 ((Rs[q]).1 + 1) = some (rd ups (q : Int) + 1, true, m', l') ∧ RW n Rs l1 (t + 1) l' L (ups.set q (rd ups (q : Int) + 1)) := by
  have hm := List.getElem_mem hq
  have o := (w.obj I hm).1
  have hh := o.mem _ (List.mem_cons_self ..)
  have hc := w.cnt q hq
  have hb := w.small q hq
  have hnd : (headsOf Rs).Nodup := (heads_sub Rs).nodup (List.nodup_append.1 I.nd).1
  refine ⟨up (up (up m)), l.set (wp 16 1 (Rs[q]).1 3) (rd ups (q : Int) + 1), ?_, w.ring.set3 hh _ (by omega) (by omega), fun c u hcr hu hn => ?_, by rw [List.length_set]; exact w.len, fun j hj => ?_, fun j hj => ?_, fun i h1 h2 h3 h4 => ?_⟩
  · unfold count_Up.f
    refine Eq.trans (bind_is (change_at hs w.ring.ok o m 1 4294967295) _) ?_
    rw [hc, if_neg (by omega), wrap64_id (n := rd ups (q : Int) + 1) (by omega) (by omega), show (rd ups (q : Int) + 1) % 4294967296 = rd ups (q : Int) + 1 by omega]
  · rw [word_set w.ring.ok.may w.ring.ok.len hh hcr z3 hu, if_neg (fun e => hn ⟨by rw [← e.1]; exact mem_heads hm, Or.inr (Or.inl e.2.symm)⟩)]
    exact w.same c u hcr hu hn
  · have hj' := (w.obj I (List.getElem_mem hj)).1.mem _ (List.mem_cons_self ..)
    rw [word_set w.ring.ok.may w.ring.ok.len hh hj' z3 z3, rdl_set ups q j _ (by rw [w.len]; exact hq)]
    by_cases e : q = j
    · subst e; rw [if_pos ⟨rfl, rfl⟩, if_pos rfl]
    · rw [if_neg e, if_neg]
      · exact w.cnt j hj
      · intro f
        have hl : (headsOf Rs).length = Rs.length := by unfold headsOf; simp
        have g : ∀ i (hi : i < Rs.length), (headsOf Rs)[i]'(by omega) = (Rs[i]).1 := fun i hi => List.getElem_map _
        have hp := List.pairwise_iff_getElem.1 hnd
        rcases Nat.lt_or_gt_of_ne e with c | c
        · exact hp q j (by omega) (by omega) c (by rw [g q hq, g j hj]; exact f.1)
        · exact hp j q (by omega) (by omega) c (by rw [g q hq, g j hj]; exact f.1.symm)
  · rw [rdl_set ups q j _ (by rw [w.len]; exact hq)]
    by_cases e : q = j
    · rw [if_pos e]; omega
    · rw [if_neg e]; have := w.small j hj; omega
  · rw [reg_word w.ring.ok.may w.ring.ok.len hh z3 h1]; exact w.regs i h1 h2 h3 h4
theorem RW.add {n : Nat} (hs : n ≤ 60) {Rs : List O4} {l1 : List Int} {t : Nat} {l L ups : List Int} (w : RW n Rs l1 t l L ups) {b : Int} (hb : b ∈ headsOf Rs) (m : Int) (k : Nat) (hk : 60 ≤ k) :
    ∃ r m' l' L', ring_Add.f k l m (n : Int) 16 1 1 b = some (r, m', l') ∧ RW n Rs l1 (t + 1) l' L' ups := by
  by_cases e : b ∈ L
  · exact ⟨_, _, _, L, add_not w.ring m k e, w.mono⟩
  · obtain ⟨m', l', e1, hr, hf⟩ := add_ring (by omega) w.ring m k hk hb e
    exact ⟨_, _, _, _, e1, w.turn hr hf⟩
theorem RW.cut {n : Nat} (hs : n ≤ 60) {Rs : List O4} {l1 : List Int} {t : Nat} {l L ups : List Int} (w : RW n Rs l1 t l L ups) {b : Int} (hb : b ∈ headsOf Rs) (m : Int) (k : Nat) (hk : 60 ≤ k) :
    ∃ r m' l' L', ring_Cut.f k l m (n : Int) 16 1 1 b = some (r, m', l') ∧ RW n Rs l1 (t + 1) l' L' ups := by
  by_cases e : b ∈ L
  · obtain ⟨P, S, rfl⟩ := List.append_of_mem e
    obtain ⟨m', l', e1, hr, hf⟩ := cut_ring (by omega) w.ring m k hk
    exact ⟨_, _, _, _, e1, w.turn hr hf⟩
  · exact ⟨_, _, _, L, cut_not w.ring m k hb e, w.mono⟩
theorem RW.take {n : Nat} (hs : n ≤ 60) {Rs : List O4} {l1 : List Int} {t : Nat} {l L ups : List Int} (w : RW n Rs l1 t l L ups) (m : Int) (k : Nat) (hk : 60 ≤ k) :
    ∃ r s m' l' L', ring_Take.f k l m (n : Int) 16 1 1 = some (r, s, m', l') ∧ RW n Rs l1 (t + 1) l' L' ups := by
  cases L with
  | nil =>
    obtain ⟨m', e⟩ := take_ring_none w.ring m k
    exact ⟨_, _, _, _, [], e, w.mono⟩
  | cons b S =>
    obtain ⟨m', l', e1, hr, hf⟩ := take_ring (by omega) w.ring m k hk
    exact ⟨_, _, _, _, _, e1, w.turn hr hf⟩
theorem modq {c : Nat} (h1 : 1 ≤ c) {a : Int} (ha : 0 ≤ a ∧ a ≤ 255) : ∃ q : Nat, q < c ∧ (Int.tdiv a 4 % 256) % (c : Int) = (q : Int) := by
  have h0 := Int.emod_nonneg (Int.tdiv a 4 % 256) (show (c : Int) ≠ 0 by omega)
  have h2 := Int.emod_lt_of_pos (Int.tdiv a 4 % 256) (show 0 < (c : Int) by omega)
  exact ⟨((Int.tdiv a 4 % 256) % (c : Int)).toNat, by omega, by omega⟩
theorem rows_lo2 {n : Nat} (hs : n ≤ 60) {Rs : List O4} {Rest l1 : List Int} (I : RI n Rs Rest l1) (h1 : 1 ≤ Rs.length) (Y : List Int) (hY : ∀ x ∈ Y, 0 ≤ x ∧ x ≤ 255) (hYl : Y.length ≤ 200) (ws : List Int) (sm m1 : Int) : ∀ (d k j : Nat) (l L ups : List Int) (m : Int), RW n Rs l1 j l L ups → j + d = Y.length → d + 200 < k →
    ∃ l' L' ups' m', quitrenttop_WholeRows.lo2 k Y ((n : Int), 16, 1, 1, ws) (sm, refsOf Rs, l1, m1) Rs.length (j : Int) l ups m = some (l', ups', m') ∧ RW n Rs l1 Y.length l' L' ups' := by
  intro d
  induction d with
  | zero =>
    intro k j l L ups m w hj hk
    obtain ⟨k, rfl⟩ : ∃ q, k = q + 1 := ⟨k - 1, by omega⟩
    obtain rfl : j = Y.length := by omega
    exact ⟨l, L, ups, m, by rw [quitrenttop_WholeRows.lo2, if_neg (by omega)], w⟩
  | succ d ih =>
    intro k j l L ups m w hj hk
    obtain ⟨k, rfl⟩ : ∃ q, k = q + 1 := ⟨k - 1, by omega⟩
    have hjl : j < Y.length := by omega
    have ha := hY _ (rd_mem Y j hjl)
    rw [quitrenttop_WholeRows.lo2, if_pos (by omega), if_pos (by omega), next_i j (by omega)]
    generalize rd Y (j : Int) = a at *
    dsimp only
    rw [refs_len]
    obtain ⟨q, hq, eq⟩ := modq h1 ha
    rw [eq]
    have hm := List.getElem_mem hq
    have hh := (w.obj I hm).1.mem _ (List.mem_cons_self ..)
    have hq0 : (0 : Int) ≤ (q : Int) ∧ (q : Int) < (Rs.length : Int) := by omega
    by_cases c0 : Int.tmod a 4 = 0
    · obtain ⟨r, m2, l2, L2, e2, w2⟩ := w.add hs (mem_heads hm) m k (by omega)
      obtain ⟨l', L', ups', m', e, hf⟩ := ih k (j + 1) l2 L2 ups m2 w2 (by omega) (by omega)
      refine ⟨l', L', ups', m', ?_, hf⟩
      rw [if_pos c0, if_pos hq0.1, if_pos hq0.2, refs_rd Rs q hq, wrap64_id (n := (Rs[q]).1 + 1 - 1) (by omega) (by omega), show (Rs[q]).1 + 1 - 1 = (Rs[q]).1 by omega]
      refine Eq.trans (bind_is e2 _) ?_
      exact e
    · rw [if_neg c0]
      by_cases c1 : Int.tmod a 4 = 1
      · obtain ⟨r, m2, l2, L2, e2, w2⟩ := w.cut hs (mem_heads hm) m k (by omega)
        obtain ⟨l', L', ups', m', e, hf⟩ := ih k (j + 1) l2 L2 ups m2 w2 (by omega) (by omega)
        refine ⟨l', L', ups', m', ?_, hf⟩
        rw [if_pos c1, if_pos hq0.1, if_pos hq0.2, refs_rd Rs q hq, wrap64_id (n := (Rs[q]).1 + 1 - 1) (by omega) (by omega), show (Rs[q]).1 + 1 - 1 = (Rs[q]).1 by omega]
        refine Eq.trans (bind_is e2 _) ?_
        exact e
      · rw [if_neg c1]
        by_cases c2 : Int.tmod a 4 = 2
        · obtain ⟨m2, l2, e2, w2⟩ := w.count hs I (by omega) q hq m
          obtain ⟨l', L', ups', m', e, hf⟩ := ih k (j + 1) l2 L _ m2 w2 (by omega) (by omega)
          have hb := w.small q hq
          refine ⟨l', L', ups', m', ?_, hf⟩
          rw [if_pos c2, if_pos hq0.1, if_pos hq0.2, refs_rd Rs q hq]
          refine Eq.trans (bind_is e2 _) ?_
          dsimp only
          rw [if_pos hq0.2, Int.toNat_natCast, wrap64_id (n := rd ups (q : Int) + 1) (by omega) (by omega)]
          refine Eq.trans (bind_is rfl _) ?_
          exact e
        · obtain ⟨r, s, m2, l2, L2, e2, w2⟩ := w.take hs m k (by omega)
          obtain ⟨l', L', ups', m', e, hf⟩ := ih k (j + 1) l2 L2 ups m2 w2 (by omega) (by omega)
          refine ⟨l', L', ups', m', ?_, hf⟩
          rw [if_neg c2]
          refine Eq.trans (bind_is e2 _) ?_
          exact e
theorem ints_lo (L : List Int) (hL : L.length < 1000000) : ∀ (d k j : Nat), j + d = L.length → d < k → quitrentref01_Ints.lo0 k L L (j : Int) = some (.out ()) := by
  intro d
  induction d with
  | zero =>
    intro k j hj hk
    obtain ⟨k, rfl⟩ : ∃ q, k = q + 1 := ⟨k - 1, by omega⟩
    rw [quitrentref01_Ints.lo0, if_neg (by omega)]
  | succ d ih =>
    intro k j hj hk
    obtain ⟨k, rfl⟩ : ∃ q, k = q + 1 := ⟨k - 1, by omega⟩
    rw [quitrentref01_Ints.lo0, if_pos (by omega), if_pos (by omega), if_pos (by omega), if_pos rfl, next_i j (by omega), ih k (j + 1) (by omega) (by omega)]
theorem ints_eq (L : List Int) (hL : L.length < 1000000) (k : Nat) (hk : L.length < k) : quitrentref01_Ints.f k L L = some true := by
  unfold quitrentref01_Ints.f
  rw [if_pos rfl]
  exact bind_is (ints_lo L hL L.length k 0 (by omega) hk) _
theorem same_lo (L : List Int) (hL : L.length < 1000000) : ∀ (d k j : Nat), j + d = L.length → d < k → quitrentref01_Same.lo0 k L L (j : Int) = some (.out ()) := by
  intro d
  induction d with
  | zero =>
    intro k j hj hk
    obtain ⟨k, rfl⟩ : ∃ q, k = q + 1 := ⟨k - 1, by omega⟩
    rw [quitrentref01_Same.lo0, if_neg (by omega)]
  | succ d ih =>
    intro k j hj hk
    obtain ⟨k, rfl⟩ : ∃ q, k = q + 1 := ⟨k - 1, by omega⟩
    rw [quitrentref01_Same.lo0, if_pos (by omega), if_pos (by omega), if_pos (by omega), if_pos rfl, next_i j (by omega), ih k (j + 1) (by omega) (by omega)]
theorem same_eq (L : List Int) (hL : L.length < 1000000) (k : Nat) (hk : L.length < k) : quitrentref01_Same.f k L L = some true := by
  unfold quitrentref01_Same.f
  rw [if_pos rfl]
  exact bind_is (same_lo L hL L.length k 0 (by omega) hk) _
theorem awakeRow : quitrenttop_awakeRow.f 2000 = some true := by decide +kernel
theorem rows_lo3 {n : Nat} (hs : n ≤ 60) {Rs : List O4} {Rest l1 : List Int} (I : RI n Rs Rest l1) {t : Nat} {l L ups : List Int} (w : RW n Rs l1 t l L ups) (ws : List Int) (sm m1 m2 : Int) : ∀ (d k j : Nat) (m : Int), j + d = Rs.length → d + 1000 < k →
    ∃ m', quitrenttop_WholeRows.lo3 k ((n : Int), 16, 1, 1, ws) (sm, refsOf Rs, l1, m1) (Rs.map (seenOf l1)) Rs.length (l, ups, m2) (j : Int) m = some (.out m') := by
  have hfew := I.few
  intro d
  induction d with
  | zero =>
    intro k j m hj hk
    obtain ⟨k, rfl⟩ : ∃ q, k = q + 1 := ⟨k - 1, by omega⟩
    exact ⟨m, by rw [quitrenttop_WholeRows.lo3, if_neg (by dsimp only; rw [refs_len]; omega)]⟩
  | succ d ih =>
    intro k j m hj hk
    obtain ⟨k, rfl⟩ : ∃ q, k = q + 1 := ⟨k - 1, by omega⟩
    have hjl : j < Rs.length := by omega
    have hm := List.getElem_mem hjl
    obtain ⟨o, hf⟩ := w.obj I hm
    have hfit : 0 ≤ (Rs[j]).2.2.1 ∧ 0 ≤ (Rs[j]).2.2.2 ∧ (Rs[j]).2.2.1 + (Rs[j]).2.2.2 ≤ 120 := o.fits
    obtain ⟨m', e⟩ := ih k (j + 1) (up (up m)) (by omega) (by omega)
    refine ⟨m', ?_⟩
    have hsee : rdOf ([], []) (Rs.map (seenOf l1)) (j : Int) = seenOf l1 Rs[j] := by
      unfold rdOf
      rw [Int.toNat_natCast, List.getD_eq_getElem?_getD, List.getElem?_eq_getElem (by rw [List.length_map]; exact hjl), List.getElem_map]
      rfl
    have hp : ptrsv l (Rs[j]).1 (Rs[j]).2.1 (Rs[j]).2.2.1.toNat = (seenOf l1 Rs[j]).1 := ptrsv_same (I.objs _ hm).1 (fun i h0 h1 => hf i h0 (by omega))
    have hd : datav l (Rs[j]).1 (Rs[j]).2.1 (Rs[j]).2.2.1 (Rs[j]).2.2.2.toNat = (seenOf l1 Rs[j]).2 := datav_same (I.objs _ hm).1 (fun i h0 h1 => hf i (by omega) h1)
    have l1' : (seenOf l1 Rs[j]).1.length < 200 := by rw [← hp, ptrsv_len]; omega
    have l2' : (seenOf l1 Rs[j]).2.length < 200 := by rw [← hd, datav_len]; omega
    rw [quitrenttop_WholeRows.lo3, if_pos (by dsimp only; rw [refs_len]; omega), if_pos (by omega)]
    dsimp only
    rw [refs_rd Rs j hjl]
    refine Eq.trans (bind_is (see_at hs w.ring.ok o m k (by omega)) _) ?_
    dsimp only
    rw [if_pos rfl, if_pos (by omega)]
    refine Eq.trans (bind_is (count_of_at hs w.ring.ok o m) _) ?_
    dsimp only
    rw [w.cnt j hjl, if_pos rfl, if_pos (by rw [List.length_map]; omega), hsee, hp, hd]
    refine Eq.trans (bind_is (ints_eq _ (by omega) k (by omega)) _) ?_
    rw [if_pos rfl]
    refine Eq.trans (bind_is (same_eq _ (by omega) k (by omega)) _) ?_
    rw [if_pos rfl, next_i j (by omega)]
    exact e
theorem plen {n : Nat} {l L : List Int} (hO : OK (n : Int) 16 1 1 l) (hL : Chain (n : Int) 16 1 l 0 L) (m : Int) : pool_Len.f l m (n : Int) 16 1 1 = some ((L.length : Int), up m) := by
  unfold pool_Len.f
  exact bind_is (len_chain hO m (Or.inl ⟨rfl, rfl⟩) hL) _
theorem WholeRows (X : List (Int × Int)) (Y : List Int) (v : Int) (_ : X.length ≤ 9223372036854775807) (_ : ∀ x ∈ X, (Lit.int .i64 x.1).wf = true ∧ (Lit.int .i64 x.2).wf = true) (_ : Y.length ≤ 9223372036854775807) (hY : ∀ x ∈ Y, (Lit.int .u8 x).wf = true) (_ : (Lit.int .u32 v).wf = true) : ∃ k, quitrenttop_WholeRows.f k X Y v = some true := by
  have hb : quitrenttop_awakeRow.f 2000 = some true := awakeRow
  generalize hk : 2000 = k at *
  refine ⟨k, ?_⟩
  unfold quitrenttop_WholeRows.f
  refine Eq.trans (bind_is hb _) ?_
  rw [if_pos rfl]
  by_cases h1 : (X.length : Int) < 1
  · rw [if_pos h1]; exact bind_is hb _
  by_cases h2 : (X.length : Int) > 20
  · rw [if_neg h1, if_pos h2]; exact bind_is hb _
  by_cases h3 : (Y.length : Int) > 200
  · rw [if_neg h1, if_neg h2, if_pos h3]; exact bind_is hb _
  rw [if_neg h1, if_neg h2, if_neg h3]
  have hY' : ∀ x ∈ Y, 0 ≤ x ∧ x ≤ 255 := fun x hx => by have := hY x hx; rw [Lit.wf_int_iff] at this; exact ⟨this.1, this.2⟩
  obtain ⟨n, hn⟩ : ∃ n : Nat, n = 60 := ⟨60, rfl⟩
  have hs : n ≤ 60 := by omega
  rw [show (60 : Int) = (n : Int) by omega]
  have hm : mayv (n : Int) 16 1 1 := by unfold mayv; omega
  obtain ⟨m1, l1, e1, hO1, hL1, hM1, hF⟩ := open_pool (n := n) rfl (by omega) (OK.zero hm) (chain_empty hm) (chain_empty hm) 0 k (by omega)
  refine Eq.trans (bind_is (gnew_may k (by omega) _ _ _ _ hm) _) ?_
  refine Eq.trans (bind_is e1 _) ?_
  dsimp only
  rw [if_pos rfl]
  have hr : ∀ i : Nat, i < 24 → 2 < i → rd l1 (i : Int) = 0 := fun i h1 h2 => by
    rw [hF.regs i h1 (Or.inr (by omega))]
    simp only [rd, List.getD_eq_getElem?_getD, List.getElem?_replicate]
    split <;> rfl
  have I0 : RI n [] (iv 0 n) l1 := ⟨hO1, hL1, hM1, by simp, by simpa using hL1.nd, by simp [iv_len], hr⟩
  obtain ⟨Rs, Rest, l2, m2, e2, I⟩ := rows_lo0 hs X (by omega) v (List.replicate (sizev (n : Int) 16 1) 0) X.length k 0 [] (iv 0 n) l1 m1 I0 (by omega) (by omega)
  have e2' : quitrenttop_WholeRows.lo0 k X v ((n : Int), 16, 1, 1, List.replicate (sizev (n : Int) 16 1) 0) 0 0 [] l1 m1 = some (((Rs.flatMap blocksOf).length : Int), refsOf Rs, l2, m2) := e2
  refine Eq.trans (bind_is e2' _) ?_
  dsimp only
  have hall := I.all
  have hfew := I.few
  rw [refs_len]
  by_cases h4 : (Rs.length : Int) = 0
  · rw [if_pos h4]
    have hnil : Rs = [] := List.eq_nil_of_length_eq_zero (by omega)
    subst hnil
    refine Eq.trans (bind_is (plen I.ok I.pool m2) _) ?_
    dsimp only
    rw [show (Rest.length : Int) = (n : Int) by simp at hall; omega]
    simp
  · rw [if_neg h4]
    have hl := rows_lo1 hs I (List.replicate (sizev (n : Int) 16 1) 0) ((Rs.flatMap blocksOf).length : Int) m2 Rs.length k 0 (by omega) (by omega)
    have hl' : quitrenttop_WholeRows.lo1 k ((n : Int), 16, 1, 1, List.replicate (sizev (n : Int) 16 1) 0) (((Rs.flatMap blocksOf).length : Int), refsOf Rs, l2, m2) 0 [] = some (Rs.map (seenOf l2)) := hl
    refine Eq.trans (bind_is hl' _) ?_
    have em : M.mkLen 35184372088832 (Rs.length : Int) = some Rs.length := by
      unfold M.mkLen
      rw [if_pos (by omega), Int.toNat_natCast]
    refine Eq.trans (bind_is em _) ?_
    obtain ⟨l3, L3, ups, m3, e3, w⟩ := rows_lo2 hs I (by omega) Y hY' (by omega) (List.replicate (sizev (n : Int) 16 1) 0) ((Rs.flatMap blocksOf).length : Int) m2 Y.length k 0 l2 [] _ m2 (RW.start I) (by omega) (by omega)
    have e3' : quitrenttop_WholeRows.lo2 k Y ((n : Int), 16, 1, 1, List.replicate (sizev (n : Int) 16 1) 0) (((Rs.flatMap blocksOf).length : Int), refsOf Rs, l2, m2) Rs.length 0 l2 (List.replicate Rs.length 0) m2 = some (l3, ups, m3) := e3
    refine Eq.trans (bind_is e3' _) ?_
    dsimp only
    obtain ⟨m4, e4⟩ := rows_lo3 hs I w (List.replicate (sizev (n : Int) 16 1) 0) ((Rs.flatMap blocksOf).length : Int) m2 m3 Rs.length k 0 m3 (by omega) (by omega)
    have e4' : quitrenttop_WholeRows.lo3 k ((n : Int), 16, 1, 1, List.replicate (sizev (n : Int) 16 1) 0) (((Rs.flatMap blocksOf).length : Int), refsOf Rs, l2, m2) (Rs.map (seenOf l2)) Rs.length (l3, ups, m3) 0 m3 = some (.out m4) := e4
    refine Eq.trans (bind_is e4' _) ?_
    simp only [M.Lp.elim]
    have hL3 : Chain (n : Int) 16 1 l3 0 Rest := I.pool.same_ (fun i h1 h2 => w.regs i (by omega) (by omega) (by omega) (by omega)) (fun x hx => w.same x 5 (I.pool.mem x hx) (by decide) (by omega))
    refine Eq.trans (bind_is (plen w.ring.ok hL3 m4) _) ?_
    dsimp only
    rw [wrap64_id (n := ((Rs.flatMap blocksOf).length : Int) + (Rest.length : Int)) (by omega) (by omega), show ((Rs.flatMap blocksOf).length : Int) + (Rest.length : Int) = (n : Int) by omega]
    simp
end Go.Proofs.YtobeonkddamnoaaDoor.V
