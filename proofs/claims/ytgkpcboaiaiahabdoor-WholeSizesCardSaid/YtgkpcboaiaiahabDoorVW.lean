/- The laws of the group W on the plain functions. No condition. -/
import Derived.Test.YtgkpcboaiaiahabDoorMW
import Derived.DataShut
import Derived.Laws.Bits64
import Derived.Laws.BitsLemmas
import Derived.RowKit
import Derived.KernelRfl
namespace Go.Proofs.YtgkpcboaiaiahabDoor.V
open Go.RowKit Go.Proofs.YtgkpcboaiaiahabDoor.C Go.Proofs.YtgkpcboaiaiahabDoor.M Go.Proofs.YtgkpcboaiaiahabDoorW.PrintWords
set_option linter.unusedVariables false
set_option linter.unusedSimpArgs false
namespace P
theorem wrap64_id {n : Int} (h0 : -9223372036854775808 ≤ n) (h1 : n ≤ 9223372036854775807) : wrap64 n = n := by unfold wrap64; omega
/-- What a number counts as. -/
def cnt (n : Int) : Int := max 0 (min n 1125899906842624)
def byv (n : Int) : Int := max 1 (cnt n)
theorem cnt_bounds (n : Int) : 0 ≤ cnt n ∧ cnt n ≤ 1125899906842624 := by unfold cnt; omega
theorem byv_bounds (n : Int) : 1 ≤ byv n ∧ byv n ≤ 1125899906842624 := by have := cnt_bounds n; unfold byv; omega
theorem cnt_id {n : Int} (h : 0 ≤ n) (h' : n ≤ 1125899906842624) : cnt n = n := by unfold cnt; omega
theorem clamp_eq (n lo hi : Int) : ratio_Clamp.f n lo hi = some (if n > hi then hi else if n < lo then lo else n) := by
  unfold ratio_Clamp.f; split <;> (try split) <;> simp_all
theorem counts_eq (n : Int) : ratio_counts.f n = some (cnt n) := by
  unfold ratio_counts.f; rw [clamp_eq]; simp only [Option.bind_some, cnt]
  congr 1
  by_cases h1 : n > 1125899906842624
  · rw [if_pos h1]; omega
  · rw [if_neg h1]
    by_cases h2 : n < 0
    · rw [if_pos h2]; omega
    · rw [if_neg h2]; omega
theorem by_eq (n : Int) : ratio_by.f n = some (byv n) := by
  unfold ratio_by.f byv; rw [counts_eq]; simp only [Option.bind_some]
  by_cases h : cnt n < 1
  · rw [if_pos h]; congr 1; omega
  · rw [if_neg h]; congr 1; omega
theorem tdiv_pos {a b : Int} (h : 0 ≤ a) : Int.tdiv a b = a / b := Int.tdiv_eq_ediv_of_nonneg h
def upv (a b : Int) : Int := (cnt a + byv b - 1) / byv b
theorem div_le {a b : Int} (h : 0 ≤ a) (hb : 1 ≤ b) : 0 ≤ a / b ∧ a / b ≤ a := ⟨Int.ediv_nonneg h (by omega), Int.ediv_le_self _ h⟩
theorem up_eq (a b : Int) : ratio_Up.f a b = some (upv a b) := by
  have ha := cnt_bounds a; have hb := byv_bounds b
  have hd := div_le (a := cnt a + byv b - 1) (by omega) hb.1
  unfold ratio_Up.f upv; simp only [counts_eq, by_eq, Option.bind_some]
  rw [if_neg (by omega), wrap64_id (n := cnt a + byv b) (by omega) (by omega), wrap64_id (n := cnt a + byv b - 1) (by omega) (by omega), tdiv_pos (by omega), wrap64_id (by omega) (by omega)]
theorem up_split {x y : Int} (hy : 1 ≤ y) : (x + y - 1) / y = if x % y > 0 then x / y + 1 else x / y := by
  have e := Int.mul_ediv_add_emod x y
  have h0 := Int.emod_nonneg x (show y ≠ 0 by omega)
  have h1 := Int.emod_lt_of_pos x (show 0 < y by omega)
  split
  · rw [Int.ediv_eq_iff_of_pos (by omega)]
    have : x / y * y = y * (x / y) := Int.mul_comm _ _
    constructor
    · rw [Int.add_mul]; omega
    · rw [Int.add_mul]; omega
  · rw [Int.ediv_eq_iff_of_pos (by omega)]
    have : x / y * y = y * (x / y) := Int.mul_comm _ _
    constructor <;> omega
/-! ### lists -/
theorem rd_at (l : List Int) (j : Nat) (h : j < l.length) : rd l (j : Int) = l[j] := by
  simp [rd, List.getD_eq_getElem?_getD, List.getElem?_eq_getElem h]
theorem drop_at (l : List Int) (j : Nat) (h : j < l.length) : l.drop j = rd l (j : Int) :: l.drop (j + 1) := by
  rw [rd_at l j h]; exact List.drop_eq_getElem_cons h
theorem next_at (j : Nat) (h : j < 100000) : wrap64 ((j : Int) + 1) = ((j + 1 : Nat) : Int) := by
  rw [wrap64_id (by omega) (by omega)]; omega
def sumv : List Int → Int
  | [] => 0
  | n :: l => cnt n + sumv l
def prodv : List Int → Int
  | [] => 1
  | n :: l => cnt n * prodv l
def low (n : Int) : Int := min n 1125899906842624
def zeroIn : List Int → Bool
  | [] => false
  | n :: l => cnt n == 0 || zeroIn l
theorem sumv_nonneg : ∀ l, 0 ≤ sumv l
  | [] => Int.le_refl 0
  | n :: l => by have := sumv_nonneg l; have := cnt_bounds n; simp only [sumv]; omega
theorem prodv_pos : ∀ l, zeroIn l = false → 1 ≤ prodv l
  | [], _ => Int.le_refl 1
  | n :: l, h => by
    simp only [zeroIn, Bool.or_eq_false_iff, beq_eq_false_iff_ne] at h
    have h1 := prodv_pos l h.2
    have h2 := cnt_bounds n
    have h3 : 1 ≤ cnt n := by omega
    simp only [prodv]
    have := Int.mul_le_mul h3 h1 (by omega) (by omega)
    omega
theorem sumv_append (a b : List Int) : sumv (a ++ b) = sumv a + sumv b := by
  induction a with
  | nil => simp [sumv]
  | cons n a ih => simp only [List.cons_append, sumv, ih]; omega
theorem sumv_reverse (l : List Int) : sumv l.reverse = sumv l := by
  induction l with
  | nil => rfl
  | cons n l ih => simp only [List.reverse_cons, sumv_append, sumv, ih]; omega
theorem prodv_append (a b : List Int) : prodv (a ++ b) = prodv a * prodv b := by
  induction a with
  | nil => simp [prodv]
  | cons n a ih => simp only [List.cons_append, prodv, ih, Int.mul_assoc]
theorem prodv_reverse (l : List Int) : prodv l.reverse = prodv l := by
  induction l with
  | nil => rfl
  | cons n l ih => simp only [List.reverse_cons, prodv_append, prodv, ih, Int.mul_one]; exact Int.mul_comm _ _
theorem zeroIn_append (a b : List Int) : zeroIn (a ++ b) = (zeroIn a || zeroIn b) := by
  induction a with
  | nil => rfl
  | cons n a ih => simp only [List.cons_append, zeroIn, ih, Bool.or_assoc]
theorem zeroIn_reverse (l : List Int) : zeroIn l.reverse = zeroIn l := by
  induction l with
  | nil => rfl
  | cons n l ih => simp only [List.reverse_cons, zeroIn_append, zeroIn, ih, Bool.or_false]; exact Bool.or_comm _ _
def addv (l : List Int) : Int := low (sumv l)
def mulv (l : List Int) : Int := if zeroIn l = true then 0 else low (prodv l)
theorem low_bounds {n : Int} (h : 0 ≤ n) : 0 ≤ low n ∧ low n ≤ 1125899906842624 := by unfold low; omega
theorem add_loop (l : List Int) (hl : l.length < 1000) : ∀ (d j k : Nat) (s : Int), j + d = l.length → d < k → 0 ≤ s → s ≤ 1125899906842624 → ratio_Add.lo0 k l s j = some (low (s + sumv (l.drop j))) := by
  intro d
  induction d with
  | zero =>
    intro j k s h hk h0 h1
    obtain ⟨k, rfl⟩ : ∃ q, k = q + 1 := ⟨k - 1, by omega⟩
    rw [ratio_Add.lo0, if_neg (by omega), List.drop_eq_nil_of_le (by omega)]
    simp only [sumv, low]; congr 1; omega
  | succ d ih =>
    intro j k s h hk h0 h1
    obtain ⟨k, rfl⟩ : ∃ q, k = q + 1 := ⟨k - 1, by omega⟩
    have hc := cnt_bounds (rd l j)
    have hs := sumv_nonneg (l.drop (j + 1))
    rw [ratio_Add.lo0, if_pos (by omega), if_pos (by omega), counts_eq, next_at j (by omega)]
    simp only [Option.bind_some]
    rw [wrap64_id (by omega) (by omega), drop_at l j (by omega)]
    split
    · rw [ih (j + 1) k _ (by omega) (by omega) (by omega) (by omega)]
      simp only [sumv, low]
      congr 1
      omega
    · rw [ih (j + 1) k _ (by omega) (by omega) (by omega) (by omega)]
      simp only [sumv]
      congr 2
      omega
theorem add_eq (k : Nat) (hk : 200 ≤ k) (l : List Int) (hl : l.length < 150) : ratio_Add.f k l = some (addv l) := by
  unfold ratio_Add.f
  have := add_loop l (by omega) l.length 0 k 0 (by omega) (by omega) (by omega) (by omega)
  rw [show ((0 : Nat) : Int) = 0 from rfl] at this
  rw [this]
  simp [addv]
theorem low_mul {s c : Int} (h0 : 0 ≤ s) (hc : 1 ≤ c) : low (low s * c) = low (s * c) := by
  unfold low
  by_cases h : s ≤ 1125899906842624
  · rw [show min s 1125899906842624 = s by omega]
  · rw [show min s 1125899906842624 = 1125899906842624 by omega]
    have h1 : 1125899906842624 * c ≤ s * c := Int.mul_le_mul_of_nonneg_right (by omega) (by omega)
    have h2 : 1125899906842624 * 1 ≤ 1125899906842624 * c := Int.mul_le_mul_of_nonneg_left hc (by omega)
    omega
theorem mul_step {s c : Int} (hc : 1 ≤ c) :
    (s ≤ wrap64 (Int.tdiv (1125899906842624 : Int) c)) ↔ s * c ≤ 1125899906842624 := by
  rw [tdiv_pos (by omega), wrap64_id (by have := div_le (a := 1125899906842624) (by omega) hc; omega) (by have := div_le (a := 1125899906842624) (by omega) hc; omega)]
  exact Int.le_ediv_iff_mul_le (by omega)
theorem mul_loop (l : List Int) (hl : l.length < 1000) : ∀ (d j k : Nat) (s : Int), j + d = l.length → d < k → 1 ≤ s → s ≤ 1125899906842624 → zeroIn (l.drop j) = false → ratio_Mul.lo0 k l s j = some (low (s * prodv (l.drop j))) := by
  intro d
  induction d with
  | zero =>
    intro j k s h hk h0 h1 hz
    obtain ⟨k, rfl⟩ : ∃ q, k = q + 1 := ⟨k - 1, by omega⟩
    rw [ratio_Mul.lo0, if_neg (by omega), List.drop_eq_nil_of_le (by omega)]
    simp only [prodv, low, Int.mul_one]; congr 1; omega
  | succ d ih =>
    intro j k s h hk h0 h1 hz
    obtain ⟨k, rfl⟩ : ∃ q, k = q + 1 := ⟨k - 1, by omega⟩
    have hb := cnt_bounds (rd l j)
    rw [drop_at l j (by omega)] at hz ⊢
    simp only [zeroIn, Bool.or_eq_false_iff, beq_eq_false_iff_ne] at hz
    have hc : 1 ≤ cnt (rd l j) := by omega
    have hp := prodv_pos _ hz.2
    have hsc : 1 * 1 ≤ s * cnt (rd l j) := Int.mul_le_mul h0 hc (by omega) (by omega)
    rw [ratio_Mul.lo0, if_pos (by omega), if_pos (by omega), counts_eq, next_at j (by omega)]
    simp only [Option.bind_some]
    rw [if_neg (by omega)]
    have hst := mul_step (s := s) hc
    have e := low_mul (s := s * cnt (rd l j)) (by omega) hp
    simp only [prodv]
    rw [← Int.mul_assoc, ← e]
    by_cases h2 : s * cnt (rd l j) ≤ 1125899906842624
    · rw [if_pos (hst.2 h2), wrap64_id (by omega) (by omega), ih (j + 1) k _ (by omega) (by omega) (by omega) (by omega) hz.2]
      rw [show low (s * cnt (rd l j)) = s * cnt (rd l j) by unfold low; omega]
    · rw [if_neg (fun h => h2 (hst.1 h)), ih (j + 1) k _ (by omega) (by omega) (by omega) (by omega) hz.2]
      rw [show low (s * cnt (rd l j)) = 1125899906842624 by unfold low; omega]
theorem zero_eq (n : Int) : ratio_zero.f n = some (cnt n == 0) := by
  unfold ratio_zero.f; rw [counts_eq]; rfl
theorem idx_loop (l : List Int) (hl : l.length < 1000) : ∀ (d j k : Nat), j + d = l.length → d < k →
    (zeroIn (l.drop j) = false ∧ slices_IndexFunc_int_int_F44.lo0 k l j = some (.out ())) ∨ (zeroIn (l.drop j) = true ∧ ∃ i : Int, 0 ≤ i ∧ slices_IndexFunc_int_int_F44.lo0 k l j = some (.ret i)) := by
  intro d
  induction d with
  | zero =>
    intro j k h hk
    obtain ⟨k, rfl⟩ : ∃ q, k = q + 1 := ⟨k - 1, by omega⟩
    rw [slices_IndexFunc_int_int_F44.lo0, if_neg (by omega), List.drop_eq_nil_of_le (by omega)]
    exact .inl ⟨rfl, rfl⟩
  | succ d ih =>
    intro j k h hk
    obtain ⟨k, rfl⟩ : ∃ q, k = q + 1 := ⟨k - 1, by omega⟩
    rw [drop_at l j (by omega), slices_IndexFunc_int_int_F44.lo0, if_pos (by omega), if_pos (by omega), zero_eq, next_at j (by omega)]
    simp only [Option.bind_some, zeroIn]
    cases hc : cnt (rd l j) == 0
    · simpa using ih (j + 1) k (by omega) (by omega)
    · right; simp
theorem contains_eq (k : Nat) (hk : 200 ≤ k) (l : List Int) (hl : l.length < 150) : slices_ContainsFunc_int_int_F44.f k l = some (zeroIn l) := by
  unfold slices_ContainsFunc_int_int_F44.f slices_IndexFunc_int_int_F44.f
  have := idx_loop l (by omega) l.length 0 k (by omega) (by omega)
  rw [show ((0 : Nat) : Int) = 0 from rfl] at this
  rcases this with ⟨h1, h2⟩ | ⟨h1, i, h0, h2⟩
  · rw [List.drop_zero] at h1; simp [h1, h2, Lp.elim]
  · rw [List.drop_zero] at h1; simp [h1, h2, Lp.elim, h0]
theorem mul_eq (k : Nat) (hk : 200 ≤ k) (l : List Int) (hl : l.length < 150) : ratio_Mul.f k l = some (mulv l) := by
  unfold ratio_Mul.f mulv
  rw [contains_eq k hk l hl]
  simp only [Option.bind_some]
  cases hz : zeroIn l
  · have := mul_loop l (by omega) l.length 0 k 1 (by omega) (by omega) (by omega) (by omega) (by simpa using hz)
    rw [show ((0 : Nat) : Int) = 0 from rfl] at this
    rw [this]
    simp
  · simp
theorem mul2 (k : Nat) (hk : 200 ≤ k) {a b : Int} (ha : 0 ≤ a) (ha' : a ≤ 1125899906842624) (hb : 0 ≤ b) (hb' : b ≤ 1125899906842624) (h : a * b ≤ 1125899906842624) : ratio_Mul.f k [a, b] = some (a * b) := by
  rw [mul_eq k hk _ (by simp)]
  congr 1
  unfold mulv
  simp only [zeroIn, prodv, cnt_id ha ha', cnt_id hb hb', Int.mul_one, Bool.or_false, Bool.or_eq_true, beq_iff_eq]
  by_cases h0 : a = 0 ∨ b = 0
  · rw [if_pos h0]
    rcases h0 with rfl | rfl <;> simp
  · rw [if_neg h0]; unfold low; omega
theorem add2 (k : Nat) (hk : 200 ≤ k) {a b : Int} (ha : 0 ≤ a) (hb : 0 ≤ b) (h : a + b ≤ 1125899906842624) : ratio_Add.f k [a, b] = some (a + b) := by
  rw [add_eq k hk _ (by simp)]
  congr 1
  unfold addv
  simp only [sumv, cnt_id ha (by omega), cnt_id hb (by omega)]
  unfold low; omega
theorem add3 (k : Nat) (hk : 200 ≤ k) {a b c : Int} (ha : 0 ≤ a) (hb : 0 ≤ b) (hc : 0 ≤ c) (h : a + b + c ≤ 1125899906842624) : ratio_Add.f k [a, b, c] = some (a + b + c) := by
  rw [add_eq k hk _ (by simp)]
  congr 1
  unfold addv
  simp only [sumv, cnt_id ha (by omega), cnt_id hb (by omega), cnt_id hc (by omega)]
  unfold low; omega
def ceilv (a b : Int) : Int := (a + b - 1) / b
theorem ceil_spec {x y : Int} (hy : 1 ≤ y) : ceilv x y * y - y < x ∧ x ≤ ceilv x y * y := by
  have e := Int.mul_ediv_add_emod (x + y - 1) y
  have h0 := Int.emod_nonneg (x + y - 1) (show y ≠ 0 by omega)
  have h1 := Int.emod_lt_of_pos (x + y - 1) (show 0 < y by omega)
  have hL : ceilv x y = (x + y - 1) / y := rfl
  rw [← hL, Int.mul_comm] at e
  omega
theorem ceil_bounds {x y : Int} (hx : 0 ≤ x) (hy : 1 ≤ y) : 0 ≤ ceilv x y ∧ ceilv x y ≤ x := by
  have hs := ceil_spec (x := x) hy
  constructor
  · exact Int.ediv_nonneg (by omega) (by omega)
  · rcases Int.lt_or_le x (ceilv x y) with h | h
    · have h1 : x * 1 ≤ x * y := Int.mul_le_mul_of_nonneg_left hy hx
      have h2 : (x + 1) * y ≤ ceilv x y * y := Int.mul_le_mul_of_nonneg_right (by omega) (by omega)
      rw [Int.add_mul] at h2
      omega
    · exact h
theorem ceil_le {x y L : Int} (hy : 1 ≤ y) (h : x ≤ L * y) : ceilv x y ≤ L := by
  have hs := ceil_spec (x := x) hy
  have : (ceilv x y - 1) * y < L * y := by rw [Int.sub_mul]; omega
  have := Int.lt_of_mul_lt_mul_right this (by omega)
  omega
theorem upc (a b : Int) (ha : 0 ≤ a) (ha' : a ≤ 1125899906842624) (hb : 1 ≤ b) (hb' : b ≤ 1125899906842624) : ratio_Up.f a b = some (ceilv a b) := by
  rw [up_eq]
  congr 1
  unfold upv ceilv byv
  rw [cnt_id ha ha', cnt_id (n := b) (by omega) hb', show max 1 b = b by omega]
/-! ### the plan -/
def mayv (N W R K : Int) : Prop := 1 ≤ N ∧ N ≤ 1048576 ∧ 16 ≤ W ∧ W ≤ 256 ∧ 1 ≤ R ∧ R ≤ 4096 ∧ 1 ≤ K ∧ K ≤ 65536 ∧ N * W ≤ 4194304
instance (N W R K : Int) : Decidable (mayv N W R K) := by unfold mayv; infer_instance
theorem nw_small {N W : Int} (h1 : 1 ≤ N) (h2 : N ≤ 1048576) (h3 : 16 ≤ W) (h4 : W ≤ 256) : 16 ≤ N * W ∧ N * W ≤ 268435456 := by
  have a : 1 * 16 ≤ N * W := Int.mul_le_mul h1 h3 (by omega) (by omega)
  have b : N * W ≤ 1048576 * 256 := Int.mul_le_mul h2 h4 (by omega) (by omega)
  omega
theorem within_eq (n lo hi : Int) (_ : lo ≤ hi) : plan_within.f n lo hi = some (decide (lo ≤ n ∧ n ≤ hi)) := by
  unfold plan_within.f
  rw [clamp_eq]
  simp only [Option.bind_some]
  congr 1
  rw [Bool.eq_iff_iff, beq_iff_eq, decide_eq_true_eq]
  by_cases h1 : n > hi
  · rw [if_pos h1]; omega
  · rw [if_neg h1]
    by_cases h2 : n < lo
    · rw [if_pos h2]; omega
    · rw [if_neg h2]; omega
theorem check_eq (N W R K : Int) : plan_Check.f N W R K = some (if mayv N W R K then 0 else 1) := by
  unfold plan_Check.f
  simp only [within_eq _ 1 1048576 (by decide), within_eq _ 16 256 (by decide), within_eq _ 1 4096 (by decide), within_eq _ 1 65536 (by decide), Option.bind_some, decide_eq_true_eq]
  by_cases h1 : 1 ≤ N ∧ N ≤ 1048576
  · rw [if_pos h1]
    by_cases h2 : 16 ≤ W ∧ W ≤ 256
    · rw [if_pos h2]
      have := nw_small h1.1 h1.2 h2.1 h2.2
      rw [wrap64_id (by omega) (by omega)]
      by_cases h3 : 1 ≤ R ∧ R ≤ 4096
      · rw [if_pos h3]
        by_cases h4 : 1 ≤ K ∧ K ≤ 65536
        · rw [if_pos h4]
          by_cases h5 : N * W ≤ 4194304
          · rw [if_pos h5, if_pos (show mayv N W R K by unfold mayv; omega)]
          · rw [if_neg h5, if_neg (show ¬ mayv N W R K by unfold mayv; omega)]
        · rw [if_neg h4, if_neg (show ¬ mayv N W R K by unfold mayv; omega)]
      · rw [if_neg h3, if_neg (show ¬ mayv N W R K by unfold mayv; omega)]
    · rw [if_neg h2, if_neg (show ¬ mayv N W R K by unfold mayv; omega)]
  · rw [if_neg h1, if_neg (show ¬ mayv N W R K by unfold mayv; omega)]
def drainv (N W : Int) : Int := N * (W + 1)
def epochv (N W : Int) : Int := 3 * drainv N W + 4
def lagv (N W K : Int) : Int := 2 * ceilv (epochv N W) K + 2 * (W - 7)
def settlev (N W K : Int) : Int := ceilv (epochv N W + epochv N W + drainv N W) K + 2
def ofv (N W R K : Int) : Int × Int × Int × Int × Int × Int × Int × Int × Int :=
  if mayv N W R K then (24 + R + N * W, W - 8, W - 7, (W - 8) * (W - 1), epochv N W, drainv N W, lagv N W K, settlev N W K, 0) else (0, 0, 0, 0, 0, 0, 0, 0, 1)
theorem drain_bounds {N W R K : Int} (h : mayv N W R K) : 17 ≤ drainv N W ∧ drainv N W ≤ 5242880 ∧ drainv N W = N * W + N := by
  obtain ⟨a, b, c, d, _, _, _, _, e⟩ := h
  have := nw_small a b c d
  have e : drainv N W = N * W + N := by unfold drainv; rw [Int.mul_add]; omega
  omega
theorem of_eq (k : Nat) (hk : 200 ≤ k) (N W R K : Int) : plan_Of.f k N W R K = some (ofv N W R K) := by
  unfold plan_Of.f ofv
  rw [check_eq]
  simp only [Option.bind_some]
  by_cases h : mayv N W R K
  · simp only [if_pos h]
    rw [if_pos trivial]
    have hd := drain_bounds h
    obtain ⟨a, b, c, d, e, f, g, i, j⟩ := h
    have hs := nw_small a b c d
    have hf : (W - 8) * (W - 1) ≤ 248 * 255 := Int.mul_le_mul (by omega) (by omega) (by omega) (by omega)
    have hdr : N * (W + 1) = drainv N W := rfl
    have hep : 3 * drainv N W + 4 = epochv N W := rfl
    rw [wrap64_id (n := W - 8) (by omega) (by omega), wrap64_id (n := W - 1) (by omega) (by omega), wrap64_id (n := W + 1) (by omega) (by omega), wrap64_id (n := W - 8 + 1) (by omega) (by omega)]
    have c1 := ceil_bounds (x := epochv N W) (y := K) (by omega) g
    have c2 := ceil_bounds (x := epochv N W + epochv N W + drainv N W) (y := K) (by omega) g
    rw [mul2 k hk (a := N) (b := W) (by omega) (by omega) (by omega) (by omega) (by omega)]
    simp only [Option.bind_some]
    rw [add3 k hk (by omega) (by omega) (by omega) (by omega)]
    simp only [Option.bind_some]
    rw [mul2 k hk (a := W - 8) (b := W - 1) (by omega) (by omega) (by omega) (by omega) (by omega)]
    simp only [Option.bind_some]
    rw [mul2 k hk (a := N) (b := W + 1) (by omega) (by omega) (by omega) (by omega) (by omega), hdr]
    simp only [Option.bind_some]
    rw [mul2 k hk (a := 3) (b := drainv N W) (by omega) (by omega) (by omega) (by omega) (by omega)]
    simp only [Option.bind_some]
    rw [add2 k hk (by omega) (by omega) (by omega), hep]
    simp only [Option.bind_some]
    rw [upc _ _ (by omega) (by omega) g (by omega)]
    simp only [Option.bind_some]
    rw [mul2 k hk (a := 2) (b := ceilv (epochv N W) K) (by omega) (by omega) (by omega) (by omega) (by omega)]
    simp only [Option.bind_some]
    rw [show W - 8 + 1 = W - 7 by omega, mul2 k hk (a := 2) (b := W - 7) (by omega) (by omega) (by omega) (by omega) (by omega)]
    simp only [Option.bind_some]
    rw [add2 k hk (by omega) (by omega) (by omega)]
    simp only [Option.bind_some]
    rw [add3 k hk (by omega) (by omega) (by omega) (by omega)]
    simp only [Option.bind_some]
    rw [upc _ _ (by omega) (by omega) g (by omega)]
    simp only [Option.bind_some]
    rw [add2 k hk (by omega) (by omega) (by omega)]
    rfl
  · simp only [if_neg h]
    rw [if_neg (by decide)]
end P
namespace S
theorem wrap64_id {n : Int} (h0 : -9223372036854775808 ≤ n) (h1 : n ≤ 9223372036854775807) : wrap64 n = n := by unfold wrap64; omega
def cnt (n : Int) : Int := max 0 (min n 1125899906842624)
def byv (n : Int) : Int := max 1 (cnt n)
theorem cnt_id {n : Int} (h : 0 ≤ n) (h' : n ≤ 1125899906842624) : cnt n = n := by unfold cnt; omega
theorem counts_eq (n : Int) : ratio_counts.f n = some (cnt n) := by
  unfold ratio_counts.f ratio_Clamp.f cnt
  by_cases h1 : n > 1125899906842624
  · rw [if_pos h1]; simp only [Option.bind_some]; congr 1; omega
  · rw [if_neg h1]
    by_cases h2 : n < 0
    · rw [if_pos h2]; simp only [Option.bind_some]; congr 1; omega
    · rw [if_neg h2]; simp only [Option.bind_some]; congr 1; omega
theorem by_eq (n : Int) : ratio_by.f n = some (byv n) := by
  unfold ratio_by.f byv; rw [counts_eq]; simp only [Option.bind_some]
  by_cases h : cnt n < 1
  · rw [if_pos h]; congr 1; omega
  · rw [if_neg h]; congr 1; omega
theorem up_eq (a b : Int) (ha : 0 ≤ a) (ha' : a ≤ 1000000) (hb : 1 ≤ b) (hb' : b ≤ 1000000) : ratio_Up.f a b = some ((a + b - 1) / b) := by
  have h1 : cnt a = a := cnt_id ha (by omega)
  have h2 : byv b = b := by unfold byv; rw [cnt_id (by omega) (by omega)]; omega
  have h3 : 0 ≤ (a + b - 1) / b := Int.ediv_nonneg (by omega) (by omega)
  have h4 : (a + b - 1) / b ≤ a + b - 1 := Int.ediv_le_self _ (by omega)
  unfold ratio_Up.f; simp only [counts_eq, by_eq, h1, h2, Option.bind_some]
  rw [if_neg (by omega), wrap64_id (n := a + b) (by omega) (by omega), wrap64_id (n := a + b - 1) (by omega) (by omega), Int.tdiv_eq_ediv_of_nonneg (by omega), wrap64_id (by omega) (by omega)]
/-! ### the shape -/
/-- The most fields. -/
def mostv (w : Int) : Int := (w - 8) * (w - 1)
theorem mostv_bounds {w : Int} (h : 16 ≤ w) (h' : w ≤ 256) : 120 ≤ mostv w ∧ mostv w ≤ 63240 := by
  unfold mostv
  have h1 : 8 * 15 ≤ (w - 8) * (w - 1) := Int.mul_le_mul (by omega) (by omega) (by omega) (by omega)
  have h2 : (w - 8) * (w - 1) ≤ 248 * 255 := Int.mul_le_mul (by omega) (by omega) (by omega) (by omega)
  omega
theorem isWidth_eq (w : Int) : shape_isWidth.f w = some (decide (16 ≤ w ∧ w ≤ 256)) := by
  unfold shape_isWidth.f
  by_cases h : w ≥ 16
  · rw [if_pos h]; congr 1; exact decide_eq_decide.2 (by omega)
  · rw [if_neg h]; congr 1; exact (decide_eq_false (by omega)).symm
theorem most_eq {w : Int} (h : 16 ≤ w) (h' : w ≤ 256) : shape_most.f w = some (mostv w) := by
  have hb := mostv_bounds h h'
  unfold mostv at hb
  unfold shape_most.f shape_inHead.f shape_inLeaf.f mostv
  simp only [Option.bind_some]
  rw [wrap64_id (n := w - 8) (by omega) (by omega), wrap64_id (n := w - 1) (by omega) (by omega), wrap64_id (by omega) (by omega)]
def wrongv (w n : Int) : Int := if 16 ≤ w ∧ w ≤ 256 then (if 0 ≤ n ∧ n ≤ mostv w then 0 else 3) else 1
def wrong2v (w n m : Int) : Int := if 16 ≤ w ∧ w ≤ 256 then (if 0 ≤ n ∧ 0 ≤ m ∧ n + m ≤ mostv w then 0 else 3) else 1
theorem wrong2_eq (k : Nat) (w n m : Int) : shape_wrong.f (k + 3) w [n, m] = some (wrong2v w n m) := by
  unfold shape_wrong.f wrong2v
  rw [isWidth_eq]
  simp only [Option.bind_some, decide_eq_true_eq]
  by_cases h : 16 ≤ w ∧ w ≤ 256
  · rw [if_pos h, if_pos h, most_eq h.1 h.2]
    have hb := mostv_bounds h.1 h.2
    generalize mostv w = M at *
    simp only [Option.bind_some]
    rw [shape_wrong.lo0, if_pos (by simp), if_pos (by omega), show rd [n, m] 0 = n from rfl, show wrap64 (0 + 1) = 1 by unfold wrap64; omega]
    by_cases h1 : n < 0
    · rw [if_pos h1, if_neg (by omega)]; rfl
    · rw [if_neg h1]
      by_cases h2 : n > M
      · rw [if_pos h2, if_neg (by omega)]; rfl
      · rw [if_neg h2, wrap64_id (n := M - n) (by omega) (by omega), shape_wrong.lo0, if_pos (by simp), if_pos (by omega), show rd [n, m] 1 = m from rfl, show wrap64 (1 + 1) = 2 by unfold wrap64; omega]
        by_cases h3 : m < 0
        · rw [if_pos (by omega), if_neg (by omega)]; rfl
        · rw [if_neg (by omega)]
          by_cases h4 : m > M - n
          · rw [if_pos h4, if_neg (by omega)]; rfl
          · rw [if_neg h4, shape_wrong.lo0, if_neg (by simp), if_pos (by omega)]; rfl
  · rw [if_neg h, if_neg h]
theorem up_spec {x y L : Int} (hy : 1 ≤ y) (hL : L = (x + y - 1) / y) : L * y - y < x ∧ x ≤ L * y := by
  have e := Int.mul_ediv_add_emod (x + y - 1) y
  have h0 := Int.emod_nonneg (x + y - 1) (show y ≠ 0 by omega)
  have h1 := Int.emod_lt_of_pos (x + y - 1) (show 0 < y by omega)
  rw [← hL, Int.mul_comm] at e
  omega
def leavesv (w f : Int) : Int := if f ≤ w - 8 then 0 else (f + (w - 1) - 1) / (w - 1)
theorem leaves_spec {w f : Int} (h : 16 ≤ w) (h1 : f ≤ mostv w) :
    (f ≤ w - 8 ∧ leavesv w f = 0) ∨ (w - 8 < f ∧ 1 ≤ leavesv w f ∧ leavesv w f ≤ w - 8 ∧ leavesv w f * (w - 1) - (w - 1) < f ∧ f ≤ leavesv w f * (w - 1)) := by
  unfold leavesv
  by_cases hf : f ≤ w - 8
  · rw [if_pos hf]; exact .inl ⟨hf, rfl⟩
  · rw [if_neg hf]
    right
    have hs := up_spec (x := f) (y := w - 1) (by omega) rfl
    generalize (f + (w - 1) - 1) / (w - 1) = L at *
    refine ⟨by omega, ?_, ?_, hs.1, hs.2⟩
    · have : 0 * (w - 1) < L * (w - 1) := by omega
      have := Int.lt_of_mul_lt_mul_right this (by omega)
      omega
    · have : (L - 1) * (w - 1) < (w - 8) * (w - 1) := by unfold mostv at h1; rw [Int.sub_mul]; omega
      have := Int.lt_of_mul_lt_mul_right this (by omega)
      omega
theorem leaves_unique {w f L : Int} (h : 16 ≤ w) (hf : w - 8 < f) (h1 : f ≤ mostv w) (hL : L * (w - 1) - (w - 1) < f) (hL' : f ≤ L * (w - 1)) : leavesv w f = L := by
  rcases leaves_spec h h1 with ⟨a, _⟩ | ⟨_, _, _, a, b⟩
  · omega
  · generalize leavesv w f = M at *
    have e1 : (L - 1) * (w - 1) < M * (w - 1) := by rw [Int.sub_mul]; omega
    have e2 : (M - 1) * (w - 1) < L * (w - 1) := by rw [Int.sub_mul]; omega
    have := Int.lt_of_mul_lt_mul_right e1 (by omega)
    have := Int.lt_of_mul_lt_mul_right e2 (by omega)
    omega
theorem leaves_eq {w f : Int} (h : 16 ≤ w) (h' : w ≤ 256) (h0 : 0 ≤ f) (h1 : f ≤ mostv w) : shape_leaves.f w f = some (leavesv w f) := by
  have hb := mostv_bounds h h'
  unfold shape_leaves.f shape_inHead.f shape_inLeaf.f leavesv
  simp only [Option.bind_some]
  rw [wrap64_id (by omega) (by omega)]
  by_cases hf : f ≤ w - 8
  · rw [if_pos hf, if_pos hf]
  · rw [if_neg hf, if_neg hf, wrap64_id (by omega) (by omega), up_eq f (w - 1) (by omega) (by omega) (by omega) (by omega)]
    rfl
theorem blocks_eq (k : Nat) (w n m : Int) : shape_Blocks.f (k + 3) w n m = some (if wrong2v w n m = 0 then (1 + leavesv w (n + m), 0) else (0, wrong2v w n m)) := by
  unfold shape_Blocks.f
  rw [wrong2_eq]
  simp only [Option.bind_some]
  by_cases h : wrong2v w n m = 0
  · rw [if_pos h, if_pos h]
    unfold wrong2v at h
    split at h
    · rename_i hw
      split at h
      · rename_i hn
        have hb := mostv_bounds hw.1 hw.2
        have hl := leaves_spec (f := n + m) hw.1 hn.2.2
        rw [wrap64_id (by omega) (by omega), leaves_eq hw.1 hw.2 (by omega) hn.2.2]
        simp only [Option.bind_some]
        rw [wrap64_id (by omega) (by omega)]
      · omega
    · omega
  · rw [if_neg h, if_neg h]
/-! ### the document's answers -/
theorem wrong_eq (k : Nat) (w n : Int) : shape_wrong.f (k + 2) w [n] = some (wrongv w n) := by
  unfold shape_wrong.f wrongv
  rw [isWidth_eq]
  simp only [Option.bind_some, decide_eq_true_eq]
  by_cases h : 16 ≤ w ∧ w ≤ 256
  · rw [if_pos h, if_pos h, most_eq h.1 h.2]
    have hb := mostv_bounds h.1 h.2
    generalize mostv w = M at *
    simp only [Option.bind_some]
    rw [shape_wrong.lo0, if_pos (by simp), if_pos (by omega), show rd [n] 0 = n from rfl, show wrap64 (0 + 1) = 1 by unfold wrap64; omega]
    by_cases h1 : n < 0
    · rw [if_pos h1, if_neg (by omega)]; rfl
    · rw [if_neg h1]
      by_cases h2 : n > M
      · rw [if_pos h2, if_neg (by omega)]; rfl
      · rw [if_neg h2, shape_wrong.lo0, if_neg (by simp), if_pos (by omega)]; rfl
  · rw [if_neg h, if_neg h]
/-- What stands behind 'nothing is wrong'. -/
theorem wrongv_ok {w n : Int} (h : wrongv w n = 0) : 16 ≤ w ∧ w ≤ 256 ∧ 0 ≤ n ∧ n ≤ mostv w := by
  unfold wrongv at h
  split at h
  · rename_i hw
    split at h
    · rename_i hn; exact ⟨hw.1, hw.2, hn.1, hn.2⟩
    · omega
  · omega
def placev (w f i : Int) : Int × Int × Int :=
  if wrongv w f = 0 then (if i < 0 ∨ f ≤ i then (0, 0, 7) else if leavesv w f = 0 then (-1, 8 + i, 0) else (i / (w - 1), 1 + i % (w - 1), 0)) else (0, 0, wrongv w f)
theorem in_leaf {w i : Int} (h : 16 ≤ w) (h0 : 0 ≤ i) : 0 ≤ i / (w - 1) ∧ i / (w - 1) ≤ i ∧ 0 ≤ i % (w - 1) ∧ i % (w - 1) < w - 1 :=
  ⟨Int.ediv_nonneg h0 (by omega), Int.ediv_le_self _ h0, Int.emod_nonneg _ (by omega), Int.emod_lt_of_pos _ (by omega)⟩
theorem place_eq (k : Nat) (w f i : Int) : shape_Place.f (k + 2) w f i = some (placev w f i) := by
  unfold shape_Place.f placev
  rw [wrong_eq]
  simp only [Option.bind_some]
  by_cases h : wrongv w f = 0
  · rw [if_pos h, if_pos h]
    obtain ⟨hw, hw', hf, hf'⟩ := wrongv_ok h
    have hb := mostv_bounds hw hw'
    by_cases h1 : i < 0
    · rw [if_pos h1, if_pos (by omega)]
    · rw [if_neg h1]
      by_cases h2 : i ≥ f
      · rw [if_pos h2, if_pos (by omega)]
      · rw [if_neg h2, if_neg (show ¬ (i < 0 ∨ f ≤ i) by omega), leaves_eq hw hw' hf hf']
        have hi := in_leaf (i := i) hw (by omega)
        unfold shape_inLeaf.f
        simp only [Option.bind_some]
        rw [wrap64_id (n := w - 1) (by omega) (by omega), wrap64_id (n := 8 + i) (by omega) (by omega), Int.tdiv_eq_ediv_of_nonneg (by omega), Int.tmod_eq_emod_of_nonneg (by omega), wrap64_id (n := i / (w - 1)) (by omega) (by omega), wrap64_id (n := 1 + i % (w - 1)) (by omega) (by omega)]
        by_cases h3 : leavesv w f = 0
        · rw [if_pos h3, if_pos h3]
        · rw [if_neg h3, if_neg h3, if_neg (by omega), if_neg (by omega)]
  · rw [if_neg h, if_neg h]
def fullv (w f leaf : Int) : Int :=
  if wrongv w f = 0 then (if leaf < -1 then 0 else if leaf = -1 then (if leavesv w f = 0 then f else 0) else if leavesv w f ≤ leaf then 0 else min (w - 1) (f - leaf * (w - 1))) else 0
theorem full_in {w f leaf : Int} (h : 16 ≤ w) (h1 : f ≤ mostv w) (h2 : 0 ≤ leaf) (h3 : leaf < leavesv w f) : w - 8 < f ∧ 0 ≤ leaf * (w - 1) ∧ leaf * (w - 1) < f ∧ leavesv w f ≤ w - 8 ∧ leavesv w f * (w - 1) - (w - 1) < f ∧ f ≤ leavesv w f * (w - 1) := by
  rcases leaves_spec h h1 with ⟨_, e⟩ | ⟨a, _, b, c, d⟩
  · omega
  · have b1 : leaf * (w - 1) ≤ (leavesv w f - 1) * (w - 1) := Int.mul_le_mul_of_nonneg_right (by omega) (by omega)
    have b0 : 0 ≤ leaf * (w - 1) := Int.mul_nonneg h2 (by omega)
    rw [Int.sub_mul] at b1
    omega
theorem full_eq (k : Nat) (w f leaf : Int) : shape_Full.f (k + 2) w f leaf = some (fullv w f leaf) := by
  unfold shape_Full.f fullv
  rw [wrong_eq]
  simp only [Option.bind_some]
  by_cases h : wrongv w f = 0
  · rw [if_pos h, if_pos h]
    obtain ⟨hw, hw', hf, hf'⟩ := wrongv_ok h
    have hb := mostv_bounds hw hw'
    by_cases h1 : leaf < -1
    · rw [if_pos h1, if_pos h1]
    · rw [if_neg h1, if_neg h1, leaves_eq hw hw' hf hf']
      simp only [Option.bind_some]
      by_cases h2 : leaf = -1
      · simp only [if_pos h2]
        split <;> rfl
      · simp only [if_neg h2]
        by_cases h3 : leaf ≥ leavesv w f
        · rw [if_pos h3, if_pos h3]
        · rw [if_neg h3, if_neg (show ¬ (leavesv w f ≤ leaf) by omega)]
          have hx := full_in hw hf' (show 0 ≤ leaf by omega) (by omega)
          unfold shape_inLeaf.f
          simp only [Option.bind_some]
          rw [wrap64_id (n := w - 1) (by omega) (by omega), wrap64_id (n := leaf * (w - 1)) (by omega) (by omega), wrap64_id (n := f - leaf * (w - 1)) (by omega) (by omega)]
          by_cases h4 : f - leaf * (w - 1) < w - 1
          · rw [if_pos h4]; congr 1; omega
          · rw [if_neg h4]; congr 1; omega
  · rw [if_neg h, if_neg h]
theorem div_is {m i q : Int} (hm : 0 < m) : i / m = q ↔ q * m ≤ i ∧ i < q * m + m := by
  rw [Int.ediv_eq_iff_of_pos hm]
theorem narrow {w f : Int} (h : wrongv w f = 0) (hw : ¬ (40 < w ∧ w ≤ 256)) : w ≤ 40 ∧ mostv w ≤ 1248 := by
  obtain ⟨a, b, _, _⟩ := wrongv_ok h
  have h2 : (w - 8) * (w - 1) ≤ 32 * 39 := Int.mul_le_mul (by omega) (by omega) (by omega) (by omega)
  unfold mostv
  omega
def topv (w b : Int) : Int := if b = 1 then w - 8 else (b - 1) * (w - 1)
def largestv (w b : Int) : Int := if 16 ≤ w ∧ w ≤ 256 then (if b < 1 ∨ b > w - 7 then 0 else topv w b) else 0
theorem top_bounds {w b : Int} (hw : 16 ≤ w) (h1 : 1 ≤ b) (h2 : b ≤ w - 7) : w - 8 ≤ topv w b ∧ topv w b ≤ mostv w := by
  unfold topv mostv
  split
  · have : 1 * (w - 1) ≤ (w - 8) * (w - 1) := Int.mul_le_mul_of_nonneg_right (by omega) (by omega)
    omega
  · have : (b - 1) * (w - 1) ≤ (w - 8) * (w - 1) := Int.mul_le_mul_of_nonneg_right (by omega) (by omega)
    have : 1 * (w - 1) ≤ (b - 1) * (w - 1) := Int.mul_le_mul_of_nonneg_right (by omega) (by omega)
    omega
theorem largest_eq (w b : Int) : shape_Largest.f w b = some (largestv w b) := by
  unfold shape_Largest.f largestv
  rw [isWidth_eq]
  simp only [Option.bind_some, decide_eq_true_eq]
  by_cases h : 16 ≤ w ∧ w ≤ 256
  · rw [if_pos h, if_pos h]
    by_cases h1 : b < 1
    · rw [if_pos h1, if_pos (by omega)]
    · rw [if_neg h1]
      unfold shape_inHead.f shape_inLeaf.f
      simp only [Option.bind_some]
      rw [wrap64_id (n := w - 8) (by omega) (by omega), wrap64_id (n := w - 8 + 1) (by omega) (by omega)]
      by_cases h2 : b > w - 8 + 1
      · rw [if_pos h2, if_pos (by omega)]
      · rw [if_neg h2, if_neg (show ¬ (b < 1 ∨ b > w - 7) by omega)]
        have ht := top_bounds h.1 (show 1 ≤ b by omega) (by omega)
        have hb := mostv_bounds h.1 h.2
        unfold topv at ht ⊢
        by_cases h3 : b = 1
        · rw [if_pos h3, if_pos h3]
        · rw [if_neg h3] at ht
          rw [if_neg h3, if_neg h3, wrap64_id (n := b - 1) (by omega) (by omega), wrap64_id (n := w - 1) (by omega) (by omega), wrap64_id (by omega) (by omega)]
  · rw [if_neg h, if_neg h]
theorem top_leaves {w b : Int} (hw : 16 ≤ w) (h1 : 1 ≤ b) (h2 : b ≤ w - 7) : 1 + leavesv w (topv w b) = b := by
  have ht := top_bounds hw h1 h2
  rcases leaves_spec (f := topv w b) hw ht.2 with ⟨a, e⟩ | ⟨a, _⟩
  · rw [e]
    unfold topv at a
    split at a
    · omega
    · have : 1 * (w - 1) ≤ (b - 1) * (w - 1) := Int.mul_le_mul_of_nonneg_right (by omega) (by omega)
      omega
  · have hb : b ≠ 1 := by intro e; unfold topv at a; rw [if_pos e] at a; omega
    have e : topv w b = (b - 1) * (w - 1) := by unfold topv; rw [if_neg hb]
    rw [leaves_unique (L := b - 1) hw a ht.2 (by omega) (by omega)]
    omega
theorem le_top {w f b : Int} (hw : 16 ≤ w) (hf : f ≤ mostv w) (h : 1 + leavesv w f = b) : f ≤ topv w b := by
  unfold topv
  rcases leaves_spec hw hf with ⟨a, e⟩ | ⟨a, a1, _, _, e⟩
  · rw [if_pos (by omega)]; exact a
  · rw [if_neg (by omega), ← h, show 1 + leavesv w f - 1 = leavesv w f by omega]; exact e
end S
theorem awake : quitrenttop_awakeShape.f 300 = some true := by decide +kernel
/-- What stands of a width alone. -/
theorem full_width (W : Int) (h : 16 ≤ W) (h' : W ≤ 256) : S.leavesv W ((W - 8) * (W - 1)) = W - 8 ∧ ((W - 8) * (W - 1) - 1) / (W - 1) = W - 9 ∧ ((W - 8) * (W - 1) - 1) % (W - 1) = W - 2 ∧ W - 8 ≤ (W - 8) * (W - 1) - 1 := by
  have hall : ∀ n : Nat, n < 241 → S.leavesv ((n : Int) + 16) (((n : Int) + 16 - 8) * ((n : Int) + 16 - 1)) = (n : Int) + 16 - 8 ∧ ((((n : Int) + 16) - 8) * (((n : Int) + 16) - 1) - 1) / (((n : Int) + 16) - 1) = ((n : Int) + 16) - 9 ∧ ((((n : Int) + 16) - 8) * (((n : Int) + 16) - 1) - 1) % (((n : Int) + 16) - 1) = ((n : Int) + 16) - 2 ∧ ((n : Int) + 16) - 8 ≤ (((n : Int) + 16) - 8) * (((n : Int) + 16) - 1) - 1 := by decide +kernel
  have := hall (W - 16).toNat (by omega)
  rw [show (((W - 16).toNat : Nat) : Int) + 16 = W by omega] at this
  exact this
theorem WholeSizes (N W R K p : Int) (_ : (Lit.int .i64 N).wf = true) (_ : (Lit.int .i64 W).wf = true) (_ : (Lit.int .i64 R).wf = true) (_ : (Lit.int .i64 K).wf = true) (_ : (Lit.int .i64 p).wf = true) : ∃ k, quitrenttop_WholeSizes.f k N W R K p = some true := by
  refine ⟨300, ?_⟩
  unfold quitrenttop_WholeSizes.f
  rw [P.of_eq 300 (by decide), awake]
  unfold P.ofv
  simp only [Option.bind_some, if_true]
  by_cases h : P.mayv N W R K
  · rw [if_pos h]
    simp only [if_true]
    have hw : 16 ≤ W ∧ W ≤ 256 := ⟨h.2.2.1, h.2.2.2.1⟩
    obtain ⟨f1, f2, f3, f4⟩ := full_width W hw.1 hw.2
    have hm : S.mostv W = (W - 8) * (W - 1) := rfl
    have hb := S.mostv_bounds hw.1 hw.2
    rw [hm] at hb
    generalize hF : (W - 8) * (W - 1) = F at *
    have hp : ∃ q, (if F < (if p < 0 then 0 else p) then F else (if p < 0 then 0 else p)) = q ∧ 0 ≤ q ∧ q ≤ F := by
      refine ⟨_, rfl, ?_, ?_⟩
      · split
        · omega
        · split <;> omega
      · split
        · omega
        · omega
    obtain ⟨q, hq, q0, q1⟩ := hp
    rw [hq, S.wrap64_id (n := F - q) (by omega) (by omega), S.wrap64_id (n := F - q + 1) (by omega) (by omega), S.blocks_eq 297 W q (F - q), S.blocks_eq 297 W q (F - q + 1), S.wrap64_id (n := F - 1) (by omega) (by omega), S.place_eq 298 W F (F - 1)]
    have w1 : S.wrong2v W q (F - q) = 0 := by unfold S.wrong2v; rw [if_pos hw, if_pos (by rw [hm]; omega)]
    have w2 : S.wrong2v W q (F - q + 1) = 3 := by unfold S.wrong2v; rw [if_pos hw, if_neg (by rw [hm]; omega)]
    have w3 : S.wrongv W F = 0 := by unfold S.wrongv; rw [if_pos hw, if_pos (by rw [hm]; omega)]
    rw [w1, w2, if_pos rfl, if_neg (by decide)]
    simp only [Option.bind_some]
    rw [show q + (F - q) = F by omega, f1]
    have hpl : S.placev W F (F - 1) = (W - 9, W - 1, 0) := by
      unfold S.placev
      rw [if_pos w3, if_neg (by omega), if_neg (by omega), f2, f3]
      congr 2; omega
    rw [hpl]
    simp only []
    rw [if_pos (by omega), S.wrap64_id (n := W - 8 - 1) (by omega) (by omega), S.wrap64_id (n := W - 1) (by omega) (by omega), S.largest_eq]
    have e9 : W - 9 = W - 8 - 1 := by omega
    have hl : S.largestv W (1 + (W - 8)) = F := by
      unfold S.largestv
      rw [if_pos hw, if_neg (by omega)]
      unfold S.topv
      rw [if_neg (by omega), ← hF]
      congr 1; omega
    simp [hl, e9]
  · rw [if_neg h]
    simp
end Go.Proofs.YtgkpcboaiaiahabDoor.V
