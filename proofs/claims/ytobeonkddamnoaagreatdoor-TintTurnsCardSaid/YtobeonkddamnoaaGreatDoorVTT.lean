/- The laws of the group TT on the plain functions. No condition. -/
import Derived.Test.YtobeonkddamnoaaGreatDoorMTT
import Derived.DataShut
import Derived.Laws.Bits64
import Derived.Laws.BitsLemmas
import Derived.RowKit
import Derived.KernelRfl
namespace Go.Proofs.YtobeonkddamnoaaGreatDoor.V
open Go.RowKit Go.Proofs.YtobeonkddamnoaaGreatDoor.C Go.Proofs.YtobeonkddamnoaaGreatDoor.M Go.Proofs.YtobeonkddamnoaaGreatDoorW.PrintWords
set_option linter.unusedVariables false
set_option linter.unusedSimpArgs false
theorem wrap64_id {n : Int} (h0 : -9223372036854775808 ≤ n) (h1 : n ≤ 9223372036854775807) : wrap64 n = n := by unfold wrap64; omega
/-- What a number counts as. -/
def cnt (n : Int) : Int := max 0 (min n 1125899906842624)
def byv (n : Int) : Int := max 1 (cnt n)
theorem cnt_bounds (n : Int) : 0 ≤ cnt n ∧ cnt n ≤ 1125899906842624 := by unfold cnt; omega
theorem byv_bounds (n : Int) : 1 ≤ byv n ∧ byv n ≤ 1125899906842624 := by have := cnt_bounds n; unfold byv; omega
theorem cnt_id {n : Int} (h : 0 ≤ n) (h' : n ≤ 1125899906842624) : cnt n = n := by unfold cnt; omega
theorem clamp_eq (n lo hi : Int) : ratio_Clamp.f n lo hi = some (if n > hi then hi else if n < lo then lo else n) := by
  unfold ratio_Clamp.f; split <;> (try split) <;> simp_all
theorem counts_eq (n : Int) : ratio_counts.f n = some (cnt n) := by
  unfold ratio_counts.f; rw [clamp_eq]; simp only [Option.bind_some, cnt]
  congr 1
  by_cases h1 : n > 1125899906842624
  · rw [if_pos h1]; omega
  · rw [if_neg h1]
    by_cases h2 : n < 0
    · rw [if_pos h2]; omega
    · rw [if_neg h2]; omega
theorem by_eq (n : Int) : ratio_by.f n = some (byv n) := by
  unfold ratio_by.f byv; rw [counts_eq]; simp only [Option.bind_some]
  by_cases h : cnt n < 1
  · rw [if_pos h]; congr 1; omega
  · rw [if_neg h]; congr 1; omega
theorem tdiv_pos {a b : Int} (h : 0 ≤ a) : Int.tdiv a b = a / b := Int.tdiv_eq_ediv_of_nonneg h
def upv (a b : Int) : Int := (cnt a + byv b - 1) / byv b
theorem div_le {a b : Int} (h : 0 ≤ a) (hb : 1 ≤ b) : 0 ≤ a / b ∧ a / b ≤ a := ⟨Int.ediv_nonneg h (by omega), Int.ediv_le_self _ h⟩
theorem up_eq (a b : Int) : ratio_Up.f a b = some (upv a b) := by
  have ha := cnt_bounds a; have hb := byv_bounds b
  have hd := div_le (a := cnt a + byv b - 1) (by omega) hb.1
  unfold ratio_Up.f upv; simp only [counts_eq, by_eq, Option.bind_some]
  rw [if_neg (by omega), wrap64_id (n := cnt a + byv b) (by omega) (by omega), wrap64_id (n := cnt a + byv b - 1) (by omega) (by omega), tdiv_pos (by omega), wrap64_id (by omega) (by omega)]
theorem up_split {x y : Int} (hy : 1 ≤ y) : (x + y - 1) / y = if x % y > 0 then x / y + 1 else x / y := by
  have e := Int.mul_ediv_add_emod x y
  have h0 := Int.emod_nonneg x (show y ≠ 0 by omega)
  have h1 := Int.emod_lt_of_pos x (show 0 < y by omega)
  split
  · rw [Int.ediv_eq_iff_of_pos (by omega)]
    have : x / y * y = y * (x / y) := Int.mul_comm _ _
    constructor
    · rw [Int.add_mul]; omega
    · rw [Int.add_mul]; omega
  · rw [Int.ediv_eq_iff_of_pos (by omega)]
    have : x / y * y = y * (x / y) := Int.mul_comm _ _
    constructor <;> omega
/-! ### lists -/
theorem rd_at (l : List Int) (j : Nat) (h : j < l.length) : rd l (j : Int) = l[j] := by
  simp [rd, List.getD_eq_getElem?_getD, List.getElem?_eq_getElem h]
theorem drop_at (l : List Int) (j : Nat) (h : j < l.length) : l.drop j = rd l (j : Int) :: l.drop (j + 1) := by
  rw [rd_at l j h]; exact List.drop_eq_getElem_cons h
theorem next_at (j : Nat) (h : j < 100000) : wrap64 ((j : Int) + 1) = ((j + 1 : Nat) : Int) := by
  rw [wrap64_id (by omega) (by omega)]; omega
def sumv : List Int → Int
  | [] => 0
  | n :: l => cnt n + sumv l
def prodv : List Int → Int
  | [] => 1
  | n :: l => cnt n * prodv l
def low (n : Int) : Int := min n 1125899906842624
def zeroIn : List Int → Bool
  | [] => false
  | n :: l => cnt n == 0 || zeroIn l
theorem sumv_nonneg : ∀ l, 0 ≤ sumv l
  | [] => Int.le_refl 0
  | n :: l => by have := sumv_nonneg l; have := cnt_bounds n; simp only [sumv]; omega
theorem prodv_pos : ∀ l, zeroIn l = false → 1 ≤ prodv l
  | [], _ => Int.le_refl 1
  | n :: l, h => by
    simp only [zeroIn, Bool.or_eq_false_iff, beq_eq_false_iff_ne] at h
    have h1 := prodv_pos l h.2
    have h2 := cnt_bounds n
    have h3 : 1 ≤ cnt n := by omega
    simp only [prodv]
    have := Int.mul_le_mul h3 h1 (by omega) (by omega)
    omega
theorem sumv_append (a b : List Int) : sumv (a ++ b) = sumv a + sumv b := by
  induction a with
  | nil => simp [sumv]
  | cons n a ih => simp only [List.cons_append, sumv, ih]; omega
theorem sumv_reverse (l : List Int) : sumv l.reverse = sumv l := by
  induction l with
  | nil => rfl
  | cons n l ih => simp only [List.reverse_cons, sumv_append, sumv, ih]; omega
theorem prodv_append (a b : List Int) : prodv (a ++ b) = prodv a * prodv b := by
  induction a with
  | nil => simp [prodv]
  | cons n a ih => simp only [List.cons_append, prodv, ih, Int.mul_assoc]
theorem prodv_reverse (l : List Int) : prodv l.reverse = prodv l := by
  induction l with
  | nil => rfl
  | cons n l ih => simp only [List.reverse_cons, prodv_append, prodv, ih, Int.mul_one]; exact Int.mul_comm _ _
theorem zeroIn_append (a b : List Int) : zeroIn (a ++ b) = (zeroIn a || zeroIn b) := by
  induction a with
  | nil => rfl
  | cons n a ih => simp only [List.cons_append, zeroIn, ih, Bool.or_assoc]
theorem zeroIn_reverse (l : List Int) : zeroIn l.reverse = zeroIn l := by
  induction l with
  | nil => rfl
  | cons n l ih => simp only [List.reverse_cons, zeroIn_append, zeroIn, ih, Bool.or_false]; exact Bool.or_comm _ _
def addv (l : List Int) : Int := low (sumv l)
def mulv (l : List Int) : Int := if zeroIn l = true then 0 else low (prodv l)
theorem low_bounds {n : Int} (h : 0 ≤ n) : 0 ≤ low n ∧ low n ≤ 1125899906842624 := by unfold low; omega
theorem add_loop (l : List Int) (hl : l.length < 1000) : ∀ (d j k : Nat) (s : Int), j + d = l.length → d < k → 0 ≤ s → s ≤ 1125899906842624 → ratio_Add.lo0 k l s j = some (low (s + sumv (l.drop j))) := by
  intro d
  induction d with
  | zero =>
    intro j k s h hk h0 h1
    obtain ⟨k, rfl⟩ : ∃ q, k = q + 1 := ⟨k - 1, by omega⟩
    rw [ratio_Add.lo0, if_neg (by omega), List.drop_eq_nil_of_le (by omega)]
    simp only [sumv, low]; congr 1; omega
  | succ d ih =>
    intro j k s h hk h0 h1
    obtain ⟨k, rfl⟩ : ∃ q, k = q + 1 := ⟨k - 1, by omega⟩
    have hc := cnt_bounds (rd l j)
    have hs := sumv_nonneg (l.drop (j + 1))
    rw [ratio_Add.lo0, if_pos (by omega), if_pos (by omega), counts_eq, next_at j (by omega)]
    simp only [Option.bind_some]
    rw [wrap64_id (by omega) (by omega), drop_at l j (by omega)]
    split
    · rw [ih (j + 1) k _ (by omega) (by omega) (by omega) (by omega)]
      simp only [sumv, low]
      congr 1
      omega
    · rw [ih (j + 1) k _ (by omega) (by omega) (by omega) (by omega)]
      simp only [sumv]
      congr 2
      omega
theorem add_eq (k : Nat) (hk : 200 ≤ k) (l : List Int) (hl : l.length < 150) : ratio_Add.f k l = some (addv l) := by
  unfold ratio_Add.f
  have := add_loop l (by omega) l.length 0 k 0 (by omega) (by omega) (by omega) (by omega)
  rw [show ((0 : Nat) : Int) = 0 from rfl] at this
  rw [this]
  simp [addv]
theorem low_mul {s c : Int} (h0 : 0 ≤ s) (hc : 1 ≤ c) : low (low s * c) = low (s * c) := by
  unfold low
  by_cases h : s ≤ 1125899906842624
  · rw [show min s 1125899906842624 = s by omega]
  · rw [show min s 1125899906842624 = 1125899906842624 by omega]
    have h1 : 1125899906842624 * c ≤ s * c := Int.mul_le_mul_of_nonneg_right (by omega) (by omega)
    have h2 : 1125899906842624 * 1 ≤ 1125899906842624 * c := Int.mul_le_mul_of_nonneg_left hc (by omega)
    omega
theorem mul_step {s c : Int} (hc : 1 ≤ c) :
    (s ≤ wrap64 (Int.tdiv (1125899906842624 : Int) c)) ↔ s * c ≤ 1125899906842624 := by
  rw [tdiv_pos (by omega), wrap64_id (by have := div_le (a := 1125899906842624) (by omega) hc; omega) (by have := div_le (a := 1125899906842624) (by omega) hc; omega)]
  exact Int.le_ediv_iff_mul_le (by omega)
theorem mul_loop (l : List Int) (hl : l.length < 1000) : ∀ (d j k : Nat) (s : Int), j + d = l.length → d < k → 1 ≤ s → s ≤ 1125899906842624 → zeroIn (l.drop j) = false → ratio_Mul.lo0 k l s j = some (low (s * prodv (l.drop j))) := by
  intro d
  induction d with
  | zero =>
    intro j k s h hk h0 h1 hz
    obtain ⟨k, rfl⟩ : ∃ q, k = q + 1 := ⟨k - 1, by omega⟩
    rw [ratio_Mul.lo0, if_neg (by omega), List.drop_eq_nil_of_le (by omega)]
    simp only [prodv, low, Int.mul_one]; congr 1; omega
  | succ d ih =>
    intro j k s h hk h0 h1 hz
    obtain ⟨k, rfl⟩ : ∃ q, k = q + 1 := ⟨k - 1, by omega⟩
    have hb := cnt_bounds (rd l j)
    rw [drop_at l j (by omega)] at hz ⊢
    simp only [zeroIn, Bool.or_eq_false_iff, beq_eq_false_iff_ne] at hz
    have hc : 1 ≤ cnt (rd l j) := by omega
    have hp := prodv_pos _ hz.2
    have hsc : 1 * 1 ≤ s * cnt (rd l j) := Int.mul_le_mul h0 hc (by omega) (by omega)
    rw [ratio_Mul.lo0, if_pos (by omega), if_pos (by omega), counts_eq, next_at j (by omega)]
    simp only [Option.bind_some]
    rw [if_neg (by omega)]
    have hst := mul_step (s := s) hc
    have e := low_mul (s := s * cnt (rd l j)) (by omega) hp
    simp only [prodv]
    rw [← Int.mul_assoc, ← e]
    by_cases h2 : s * cnt (rd l j) ≤ 1125899906842624
    · rw [if_pos (hst.2 h2), wrap64_id (by omega) (by omega), ih (j + 1) k _ (by omega) (by omega) (by omega) (by omega) hz.2]
      rw [show low (s * cnt (rd l j)) = s * cnt (rd l j) by unfold low; omega]
    · rw [if_neg (fun h => h2 (hst.1 h)), ih (j + 1) k _ (by omega) (by omega) (by omega) (by omega) hz.2]
      rw [show low (s * cnt (rd l j)) = 1125899906842624 by unfold low; omega]
theorem zero_eq (n : Int) : ratio_zero.f n = some (cnt n == 0) := by
  unfold ratio_zero.f; rw [counts_eq]; rfl
theorem idx_loop (l : List Int) (hl : l.length < 1000) : ∀ (d j k : Nat), j + d = l.length → d < k →
    (zeroIn (l.drop j) = false ∧ slices_IndexFunc_int_int_F181.lo0 k l j = some (.out ())) ∨ (zeroIn (l.drop j) = true ∧ ∃ i : Int, 0 ≤ i ∧ slices_IndexFunc_int_int_F181.lo0 k l j = some (.ret i)) := by
  intro d
  induction d with
  | zero =>
    intro j k h hk
    obtain ⟨k, rfl⟩ : ∃ q, k = q + 1 := ⟨k - 1, by omega⟩
    rw [slices_IndexFunc_int_int_F181.lo0, if_neg (by omega), List.drop_eq_nil_of_le (by omega)]
    exact .inl ⟨rfl, rfl⟩
  | succ d ih =>
    intro j k h hk
    obtain ⟨k, rfl⟩ : ∃ q, k = q + 1 := ⟨k - 1, by omega⟩
    rw [drop_at l j (by omega), slices_IndexFunc_int_int_F181.lo0, if_pos (by omega), if_pos (by omega), zero_eq, next_at j (by omega)]
    simp only [Option.bind_some, zeroIn]
    cases hc : cnt (rd l j) == 0
    · simpa using ih (j + 1) k (by omega) (by omega)
    · right; simp
theorem contains_eq (k : Nat) (hk : 200 ≤ k) (l : List Int) (hl : l.length < 150) : slices_ContainsFunc_int_int_F181.f k l = some (zeroIn l) := by
  unfold slices_ContainsFunc_int_int_F181.f slices_IndexFunc_int_int_F181.f
  have := idx_loop l (by omega) l.length 0 k (by omega) (by omega)
  rw [show ((0 : Nat) : Int) = 0 from rfl] at this
  rcases this with ⟨h1, h2⟩ | ⟨h1, i, h0, h2⟩
  · rw [List.drop_zero] at h1; simp [h1, h2, Lp.elim]
  · rw [List.drop_zero] at h1; simp [h1, h2, Lp.elim, h0]
theorem mul_eq (k : Nat) (hk : 200 ≤ k) (l : List Int) (hl : l.length < 150) : ratio_Mul.f k l = some (mulv l) := by
  unfold ratio_Mul.f mulv
  rw [contains_eq k hk l hl]
  simp only [Option.bind_some]
  cases hz : zeroIn l
  · have := mul_loop l (by omega) l.length 0 k 1 (by omega) (by omega) (by omega) (by omega) (by simpa using hz)
    rw [show ((0 : Nat) : Int) = 0 from rfl] at this
    rw [this]
    simp
  · simp
theorem mul2 (k : Nat) (hk : 200 ≤ k) {a b : Int} (ha : 0 ≤ a) (ha' : a ≤ 1125899906842624) (hb : 0 ≤ b) (hb' : b ≤ 1125899906842624) (h : a * b ≤ 1125899906842624) : ratio_Mul.f k [a, b] = some (a * b) := by
  rw [mul_eq k hk _ (by simp)]
  congr 1
  unfold mulv
  simp only [zeroIn, prodv, cnt_id ha ha', cnt_id hb hb', Int.mul_one, Bool.or_false, Bool.or_eq_true, beq_iff_eq]
  by_cases h0 : a = 0 ∨ b = 0
  · rw [if_pos h0]
    rcases h0 with rfl | rfl <;> simp
  · rw [if_neg h0]; unfold low; omega
theorem add2 (k : Nat) (hk : 200 ≤ k) {a b : Int} (ha : 0 ≤ a) (hb : 0 ≤ b) (h : a + b ≤ 1125899906842624) : ratio_Add.f k [a, b] = some (a + b) := by
  rw [add_eq k hk _ (by simp)]
  congr 1
  unfold addv
  simp only [sumv, cnt_id ha (by omega), cnt_id hb (by omega)]
  unfold low; omega
theorem add3 (k : Nat) (hk : 200 ≤ k) {a b c : Int} (ha : 0 ≤ a) (hb : 0 ≤ b) (hc : 0 ≤ c) (h : a + b + c ≤ 1125899906842624) : ratio_Add.f k [a, b, c] = some (a + b + c) := by
  rw [add_eq k hk _ (by simp)]
  congr 1
  unfold addv
  simp only [sumv, cnt_id ha (by omega), cnt_id hb (by omega), cnt_id hc (by omega)]
  unfold low; omega
def ceilv (a b : Int) : Int := (a + b - 1) / b
theorem ceil_spec {x y : Int} (hy : 1 ≤ y) : ceilv x y * y - y < x ∧ x ≤ ceilv x y * y := by
  have e := Int.mul_ediv_add_emod (x + y - 1) y
  have h0 := Int.emod_nonneg (x + y - 1) (show y ≠ 0 by omega)
  have h1 := Int.emod_lt_of_pos (x + y - 1) (show 0 < y by omega)
  have hL : ceilv x y = (x + y - 1) / y := rfl
  rw [← hL, Int.mul_comm] at e
  omega
theorem ceil_bounds {x y : Int} (hx : 0 ≤ x) (hy : 1 ≤ y) : 0 ≤ ceilv x y ∧ ceilv x y ≤ x := by
  have hs := ceil_spec (x := x) hy
  constructor
  · exact Int.ediv_nonneg (by omega) (by omega)
  · rcases Int.lt_or_le x (ceilv x y) with h | h
    · have h1 : x * 1 ≤ x * y := Int.mul_le_mul_of_nonneg_left hy hx
      have h2 : (x + 1) * y ≤ ceilv x y * y := Int.mul_le_mul_of_nonneg_right (by omega) (by omega)
      rw [Int.add_mul] at h2
      omega
    · exact h
theorem ceil_le {x y L : Int} (hy : 1 ≤ y) (h : x ≤ L * y) : ceilv x y ≤ L := by
  have hs := ceil_spec (x := x) hy
  have : (ceilv x y - 1) * y < L * y := by rw [Int.sub_mul]; omega
  have := Int.lt_of_mul_lt_mul_right this (by omega)
  omega
theorem upc (a b : Int) (ha : 0 ≤ a) (ha' : a ≤ 1125899906842624) (hb : 1 ≤ b) (hb' : b ≤ 1125899906842624) : ratio_Up.f a b = some (ceilv a b) := by
  rw [up_eq]
  congr 1
  unfold upv ceilv byv
  rw [cnt_id ha ha', cnt_id (n := b) (by omega) hb', show max 1 b = b by omega]
/-! ### the plan -/
def mayv (N W R K : Int) : Prop := 1 ≤ N ∧ N ≤ 1048576 ∧ 16 ≤ W ∧ W ≤ 256 ∧ 1 ≤ R ∧ R ≤ 4096 ∧ 1 ≤ K ∧ K ≤ 65536 ∧ N * W ≤ 4194304
instance (N W R K : Int) : Decidable (mayv N W R K) := by unfold mayv; infer_instance
theorem nw_small {N W : Int} (h1 : 1 ≤ N) (h2 : N ≤ 1048576) (h3 : 16 ≤ W) (h4 : W ≤ 256) : 16 ≤ N * W ∧ N * W ≤ 268435456 := by
  have a : 1 * 16 ≤ N * W := Int.mul_le_mul h1 h3 (by omega) (by omega)
  have b : N * W ≤ 1048576 * 256 := Int.mul_le_mul h2 h4 (by omega) (by omega)
  omega
theorem within_eq (n lo hi : Int) (_ : lo ≤ hi) : plan_within.f n lo hi = some (decide (lo ≤ n ∧ n ≤ hi)) := by
  unfold plan_within.f
  rw [clamp_eq]
  simp only [Option.bind_some]
  congr 1
  rw [Bool.eq_iff_iff, beq_iff_eq, decide_eq_true_eq]
  by_cases h1 : n > hi
  · rw [if_pos h1]; omega
  · rw [if_neg h1]
    by_cases h2 : n < lo
    · rw [if_pos h2]; omega
    · rw [if_neg h2]; omega
theorem check_eq (N W R K : Int) : plan_Check.f N W R K = some (if mayv N W R K then 0 else 1) := by
  unfold plan_Check.f
  simp only [within_eq _ 1 1048576 (by decide), within_eq _ 16 256 (by decide), within_eq _ 1 4096 (by decide), within_eq _ 1 65536 (by decide), Option.bind_some, decide_eq_true_eq]
  by_cases h1 : 1 ≤ N ∧ N ≤ 1048576
  · rw [if_pos h1]
    by_cases h2 : 16 ≤ W ∧ W ≤ 256
    · rw [if_pos h2]
      have := nw_small h1.1 h1.2 h2.1 h2.2
      rw [wrap64_id (by omega) (by omega)]
      by_cases h3 : 1 ≤ R ∧ R ≤ 4096
      · rw [if_pos h3]
        by_cases h4 : 1 ≤ K ∧ K ≤ 65536
        · rw [if_pos h4]
          by_cases h5 : N * W ≤ 4194304
          · rw [if_pos h5, if_pos (show mayv N W R K by unfold mayv; omega)]
          · rw [if_neg h5, if_neg (show ¬ mayv N W R K by unfold mayv; omega)]
        · rw [if_neg h4, if_neg (show ¬ mayv N W R K by unfold mayv; omega)]
      · rw [if_neg h3, if_neg (show ¬ mayv N W R K by unfold mayv; omega)]
    · rw [if_neg h2, if_neg (show ¬ mayv N W R K by unfold mayv; omega)]
  · rw [if_neg h1, if_neg (show ¬ mayv N W R K by unfold mayv; omega)]
def drainv (N W : Int) : Int := N * (W + 1)
def epochv (N W : Int) : Int := 3 * drainv N W + 4
def lagv (N W K : Int) : Int := 2 * ceilv (epochv N W) K + 2 * (W - 7)
def settlev (N W K : Int) : Int := ceilv (epochv N W + epochv N W + drainv N W) K + 2
def ofv (N W R K : Int) : Int × Int × Int × Int × Int × Int × Int × Int × Int :=
  if mayv N W R K then (24 + R + N * W, W - 8, W - 7, (W - 8) * (W - 1), epochv N W, drainv N W, lagv N W K, settlev N W K, 0) else (0, 0, 0, 0, 0, 0, 0, 0, 1)
theorem drain_bounds {N W R K : Int} (h : mayv N W R K) : 17 ≤ drainv N W ∧ drainv N W ≤ 5242880 ∧ drainv N W = N * W + N := by
  obtain ⟨a, b, c, d, _, _, _, _, e⟩ := h
  have := nw_small a b c d
  have e : drainv N W = N * W + N := by unfold drainv; rw [Int.mul_add]; omega
  omega
theorem of_eq (k : Nat) (hk : 200 ≤ k) (N W R K : Int) : plan_Of.f k N W R K = some (ofv N W R K) := by
  unfold plan_Of.f ofv
  rw [check_eq]
  simp only [Option.bind_some]
  by_cases h : mayv N W R K
  · simp only [if_pos h]
    rw [if_pos trivial]
    have hd := drain_bounds h
    obtain ⟨a, b, c, d, e, f, g, i, j⟩ := h
    have hs := nw_small a b c d
    have hf : (W - 8) * (W - 1) ≤ 248 * 255 := Int.mul_le_mul (by omega) (by omega) (by omega) (by omega)
    have hdr : N * (W + 1) = drainv N W := rfl
    have hep : 3 * drainv N W + 4 = epochv N W := rfl
    rw [wrap64_id (n := W - 8) (by omega) (by omega), wrap64_id (n := W - 1) (by omega) (by omega), wrap64_id (n := W + 1) (by omega) (by omega), wrap64_id (n := W - 8 + 1) (by omega) (by omega)]
    have c1 := ceil_bounds (x := epochv N W) (y := K) (by omega) g
    have c2 := ceil_bounds (x := epochv N W + epochv N W + drainv N W) (y := K) (by omega) g
    rw [mul2 k hk (a := N) (b := W) (by omega) (by omega) (by omega) (by omega) (by omega)]
    simp only [Option.bind_some]
    rw [add3 k hk (by omega) (by omega) (by omega) (by omega)]
    simp only [Option.bind_some]
    rw [mul2 k hk (a := W - 8) (b := W - 1) (by omega) (by omega) (by omega) (by omega) (by omega)]
    simp only [Option.bind_some]
    rw [mul2 k hk (a := N) (b := W + 1) (by omega) (by omega) (by omega) (by omega) (by omega), hdr]
    simp only [Option.bind_some]
    rw [mul2 k hk (a := 3) (b := drainv N W) (by omega) (by omega) (by omega) (by omega) (by omega)]
    simp only [Option.bind_some]
    rw [add2 k hk (by omega) (by omega) (by omega), hep]
    simp only [Option.bind_some]
    rw [upc _ _ (by omega) (by omega) g (by omega)]
    simp only [Option.bind_some]
    rw [mul2 k hk (a := 2) (b := ceilv (epochv N W) K) (by omega) (by omega) (by omega) (by omega) (by omega)]
    simp only [Option.bind_some]
    rw [show W - 8 + 1 = W - 7 by omega, mul2 k hk (a := 2) (b := W - 7) (by omega) (by omega) (by omega) (by omega) (by omega)]
    simp only [Option.bind_some]
    rw [add2 k hk (by omega) (by omega) (by omega)]
    simp only [Option.bind_some]
    rw [add3 k hk (by omega) (by omega) (by omega) (by omega)]
    simp only [Option.bind_some]
    rw [upc _ _ (by omega) (by omega) g (by omega)]
    simp only [Option.bind_some]
    rw [add2 k hk (by omega) (by omega) (by omega)]
    rfl
  · simp only [if_neg h]
    rw [if_neg (by decide)]
theorem has_eq (l : List Int) (m a : Int) : store_Store_has.f l m a = some (decide (0 ≤ a ∧ a < (l.length : Int))) := by
  unfold store_Store_has.f
  by_cases h : a ≥ 0
  · rw [if_pos h]; congr 1; exact decide_eq_decide.2 (by omega)
  · rw [if_neg h]; congr 1; exact (decide_eq_false (by omega)).symm
theorem put_eq (l : List Int) (m i w : Int) : store_Store_Put.f l m i w = some (if 0 ≤ i ∧ i < (l.length : Int) then (true, IntKind.u64.wrap (m + 1), l.set i.toNat w) else (false, m, l)) := by
  unfold store_Store_Put.f
  rw [has_eq]
  simp only [Option.bind_some, decide_eq_true_eq]
  by_cases h : 0 ≤ i ∧ i < (l.length : Int)
  · rw [if_pos h, if_pos h]
    simp only [atomic_Uint64_Add.f, Option.bind_some]
    rw [if_pos h.1, if_pos h.2]
  · rw [if_neg h, if_neg h]
theorem get_eq (l : List Int) (m i : Int) : store_Store_Get.f l m i = some (if 0 ≤ i ∧ i < (l.length : Int) then (rd l i, IntKind.u64.wrap (m + 1)) else (0, m)) := by
  unfold store_Store_Get.f
  rw [has_eq]
  simp only [Option.bind_some, decide_eq_true_eq]
  by_cases h : 0 ≤ i ∧ i < (l.length : Int)
  · rw [if_pos h, if_pos h]
    simp only [atomic_Uint64_Add.f, Option.bind_some]
    rw [if_pos h.1, if_pos h.2]
  · rw [if_neg h, if_neg h]
theorem peek_eq (l : List Int) (m i : Int) : store_Store_Peek.f l m i = some (if 0 ≤ i ∧ i < (l.length : Int) then rd l i else 0) := by
  unfold store_Store_Peek.f
  rw [has_eq]
  simp only [Option.bind_some, decide_eq_true_eq]
  by_cases h : 0 ≤ i ∧ i < (l.length : Int)
  · rw [if_pos h, if_pos h, if_pos h.1, if_pos h.2]
  · rw [if_neg h, if_neg h]
theorem new_in (n : Int) (h0 : 0 ≤ n) (h1 : n ≤ 8388608) : store_New.f n = some (.inr (List.replicate n.toNat 0)) := by
  unfold store_New.f
  rw [if_neg (by omega), if_neg (by omega)]
  unfold M.mkLen
  rw [if_pos (by omega)]
  rfl
theorem new_out (n : Int) (h : n < 0 ∨ 8388608 < n) : store_New.f n = some (.inl ()) := by
  unfold store_New.f
  by_cases h0 : n < 0
  · rw [if_pos h0]
  · rw [if_neg h0, if_pos (by omega)]
theorem rd_nat (l : List Int) (j : Nat) (h : j < l.length) : rd l (j : Int) = l[j] := by
  simp [rd, List.getD_eq_getElem?_getD, List.getElem?_eq_getElem h]
theorem rd_set (l : List Int) (i j : Int) (x : Int) (h0 : 0 ≤ i) (h1 : i < (l.length : Int)) (h2 : 0 ≤ j) : rd (l.set i.toNat x) j = if i = j then x else rd l j := by
  simp only [rd, List.getD_eq_getElem?_getD, List.getElem?_set]
  by_cases h : i = j
  · subst h; rw [if_pos rfl, if_pos (show i.toNat < l.length by omega), if_pos rfl]; rfl
  · rw [if_neg (show ¬ i.toNat = j.toNat by omega), if_neg h]
theorem next_i (j : Nat) (h : j < 4611686018427387904) : wrap64 ((j : Int) + 1) = ((j + 1 : Nat) : Int) := by
  unfold wrap64; omega
theorem w0 : wrap64 0 = 0 := by unfold wrap64; decide
theorem mayW {N W R K : Int} (h : mayv N W R K) : 0 ≤ 24 + R + N * W ∧ 24 + R + N * W ≤ 8388608 := by
  have := nw_small h.1 h.2.1 h.2.2.1 h.2.2.2.1
  unfold mayv at h
  generalize N * W = q at *
  omega
/-- How many words a ground has. -/
def sizev (N W R : Int) : Nat := (24 + R + N * W).toNat
theorem size_cast {N W R K : Int} (h : mayv N W R K) : ((sizev N W R : Nat) : Int) = 24 + R + N * W := by
  unfold sizev; have := (mayW h).1; omega
theorem gnew_may (k : Nat) (hk : 200 ≤ k) (N W R K : Int) (h : mayv N W R K) : ground_New.f k N W R K = some (.inr (.inl (N, W, R, K, List.replicate (sizev N W R) 0))) := by
  unfold ground_New.f
  rw [of_eq k hk]
  unfold ofv
  simp only [Option.bind_some]
  rw [if_pos h]
  simp only [if_true]
  rw [new_in _ (mayW h).1 (mayW h).2]
  rfl
theorem gnew_not (k : Nat) (hk : 200 ≤ k) (N W R K : Int) (h : ¬ mayv N W R K) : ground_New.f k N W R K = some (.inr (.inr 1)) := by
  unfold ground_New.f
  rw [of_eq k hk]
  unfold ofv
  simp only [Option.bind_some]
  rw [if_neg h]
  rfl
def littlev (N W R : Int) : Prop := N ≤ 300 ∧ W ≤ 64 ∧ R ≤ 40
instance (N W R : Int) : Decidable (littlev N W R) := by unfold littlev; infer_instance
theorem within_in (i m f : Int) (h0 : 0 ≤ i) (h1 : i < m) : ground_within.f i m f = some (wrap64 (f + i)) := by
  unfold ground_within.f
  rw [if_neg (by omega), if_neg (by omega)]
theorem within_out (i m f : Int) (h : i < 0 ∨ m ≤ i) : ground_within.f i m f = some (-1) := by
  unfold ground_within.f
  by_cases h0 : i < 0
  · rw [if_pos h0]
  · rw [if_neg h0, if_pos (by omega)]
/-- Where a register, a root slot and a block's word are; none: there is none. -/
def regv (i : Int) : Option Nat := if 0 ≤ i ∧ i < 24 then some i.toNat else none
def rootv (R i : Int) : Option Nat := if 0 ≤ i ∧ i < R then some (24 + i).toNat else none
def wordv (N W R b w : Int) : Option Nat := if (0 ≤ b ∧ b < N) ∧ 0 ≤ w ∧ w < W then some (24 + R + b * W + w).toNat else none
def posv : Option Nat → Int
  | some n => n
  | none => -1
theorem reg_eq (i : Int) : ground_reg.f i = some (posv (regv i)) := by
  unfold ground_reg.f regv
  by_cases h : 0 ≤ i ∧ i < 24
  · rw [within_in _ _ _ h.1 h.2, if_pos h, wrap64_id (by omega) (by omega)]
    simp only [Option.bind_some, posv]; congr 1; omega
  · rw [within_out _ _ _ (by omega), if_neg h]; rfl
theorem bw_small {N W R K b : Int} (h : mayv N W R K) (h0 : 0 ≤ b) (h1 : b < N) : 0 ≤ b * W ∧ b * W + W ≤ N * W := by
  have hW : (0 : Int) ≤ W := by unfold mayv at h; omega
  constructor
  · exact Int.mul_nonneg h0 hW
  · have := Int.mul_le_mul_of_nonneg_right (show b + 1 ≤ N by omega) hW
    rw [Int.add_mul, Int.one_mul] at this
    exact this
theorem word_eq (l : List Int) (m N W R K b w : Int) (h : mayv N W R K) : ground_Ground_word.f l m N W R K b w = some (posv (wordv N W R b w)) := by
  unfold ground_Ground_word.f ground_Ground_Conf.f wordv
  simp only [Option.bind_some]
  by_cases hb : 0 ≤ b ∧ b < N
  · rw [within_in _ _ _ hb.1 hb.2]
    simp only [Option.bind_some]
    have hs := bw_small h hb.1 hb.2
    have hn := nw_small h.1 h.2.1 h.2.2.1 h.2.2.2.1
    unfold mayv at h
    rw [wrap64_id (n := 0 + b) (by omega) (by omega), if_neg (by omega), wrap64_id (n := 24 + R) (by omega) (by omega)]
    generalize b * W = q at *
    generalize N * W = t at *
    rw [wrap64_id (n := q) (by omega) (by omega), wrap64_id (n := 24 + R + q) (by omega) (by omega)]
    by_cases hw : 0 ≤ w ∧ w < W
    · rw [within_in _ _ _ hw.1 hw.2, if_pos ⟨hb, hw⟩, wrap64_id (by omega) (by omega)]
      simp only [Option.bind_some, posv]; congr 1; omega
    · rw [within_out _ _ _ (by omega), if_neg (fun h => hw h.2)]; rfl
  · rw [within_out _ _ _ (by omega), if_neg (fun h => hb h.1)]
    rfl
/-- What a ground of so many words does at a place. -/
theorem regv_lt {N W R K : Int} (h : mayv N W R K) {i : Int} {p : Nat} (hp : regv i = some p) : p < sizev N W R ∧ (p : Int) = i ∧ p < 24 := by
  unfold regv at hp
  split at hp
  · cases hp
    have := size_cast h
    have := (nw_small h.1 h.2.1 h.2.2.1 h.2.2.2.1)
    unfold mayv at h
    generalize N * W = q at *
    omega
  · cases hp
theorem rootv_lt {N W R K : Int} (h : mayv N W R K) {i : Int} {p : Nat} (hp : rootv R i = some p) : p < sizev N W R ∧ (p : Int) = 24 + i ∧ (p : Int) < 24 + R ∧ 24 ≤ p := by
  unfold rootv at hp
  split at hp
  · cases hp
    have := size_cast h
    have := (nw_small h.1 h.2.1 h.2.2.1 h.2.2.2.1)
    unfold mayv at h
    generalize N * W = q at *
    omega
  · cases hp
theorem wordv_lt {N W R K : Int} (h : mayv N W R K) {b w : Int} {p : Nat} (hp : wordv N W R b w = some p) : p < sizev N W R ∧ (p : Int) = 24 + R + b * W + w ∧ 24 + R ≤ (p : Int) ∧ 0 ≤ w ∧ w < W ∧ 0 ≤ b ∧ b < N := by
  unfold wordv at hp
  split at hp
  · next hc =>
    cases hp
    have := size_cast h
    have hs := bw_small h hc.1.1 hc.1.2
    unfold mayv at h
    generalize b * W = q at *
    generalize N * W = t at *
    omega
  · cases hp
/-- What is got at a place, and the meter then. -/
def sgetv (l : List Int) (m : Int) (p : Option Nat) : Int × Int := match p with
  | some n => (rd l (n : Int), IntKind.u64.wrap (m + 1))
  | none => (0, m)
def sputv (l : List Int) (m : Int) (p : Option Nat) (v : Int) : Bool × Int × List Int := match p with
  | some n => (true, IntKind.u64.wrap (m + 1), l.set n v)
  | none => (false, m, l)
theorem sget_eq (l : List Int) (m : Int) (p : Option Nat) (hp : ∀ n, p = some n → n < l.length) : store_Store_Get.f l m (posv p) = some (sgetv l m p) := by
  rw [get_eq]
  cases p with
  | none => rw [if_neg (by simp [posv])]; rfl
  | some n => have := hp n rfl; rw [if_pos (by simp [posv]; omega)]; rfl
theorem sput_eq (l : List Int) (m : Int) (p : Option Nat) (v : Int) (hp : ∀ n, p = some n → n < l.length) : store_Store_Put.f l m (posv p) v = some (sputv l m p v) := by
  rw [put_eq]
  cases p with
  | none => rw [if_neg (by simp [posv])]; rfl
  | some n => have := hp n rfl; rw [if_pos (by simp [posv]; omega)]; simp [sputv, posv]
/-- A ground that may be: so many words, each of 32 bits. -/
structure OK (N W R K : Int) (l : List Int) : Prop where
  may : mayv N W R K
  len : l.length = sizev N W R
  u32 : ∀ i : Nat, 0 ≤ rd l (i : Int) ∧ rd l (i : Int) < 4294967296
theorem rd_out (l : List Int) (i : Nat) (h : l.length ≤ i) : rd l (i : Int) = 0 := by
  simp [rd, List.getD_eq_getElem?_getD, List.getElem?_eq_none h]
theorem rd_setN (l : List Int) (i j : Nat) (x : Int) (h : i < l.length) : rd (l.set i x) (j : Int) = if i = j then x else rd l (j : Int) := by
  have := rd_set l (i : Int) (j : Int) x (by omega) (by omega) (by omega)
  simp only [Int.toNat_natCast] at this
  rw [this]
  by_cases h : i = j
  · rw [if_pos (by omega), if_pos h]
  · rw [if_neg (by omega), if_neg h]
theorem OK.set {N W R K : Int} {l : List Int} (h : OK N W R K l) (n : Nat) (v : Int) (h0 : 0 ≤ v) (h1 : v < 4294967296) : OK N W R K (l.set n v) := by
  refine ⟨h.may, by rw [List.length_set]; exact h.len, fun i => ?_⟩
  rcases Nat.lt_or_ge n l.length with hn | hn
  · rw [rd_setN l n i v hn]
    split
    · exact ⟨h0, h1⟩
    · exact h.u32 i
  · rw [List.set_eq_of_length_le hn]; exact h.u32 i
theorem OK.zero {N W R K : Int} (h : mayv N W R K) : OK N W R K (List.replicate (sizev N W R) 0) := by
  refine ⟨h, by simp, fun i => ?_⟩
  have : rd (List.replicate (sizev N W R) (0 : Int)) (i : Int) = 0 := by
    simp only [rd, List.getD_eq_getElem?_getD, List.getElem?_replicate, Int.toNat_natCast]
    split <;> rfl
  rw [this]; decide
theorem OK.small {N W R K : Int} {l : List Int} (h : OK N W R K l) : l.length ≤ 8388608 := by
  have := size_cast h.may
  have := mayW h.may
  have := h.len
  omega
theorem Reg_eq {N W R K : Int} {l : List Int} (h : OK N W R K l) (m i : Int) : ground_Ground_Reg.f l m N W R K i = some (sgetv l m (regv i)) := by
  unfold ground_Ground_Reg.f ground_Ground_all.f
  simp only [Option.bind_some]
  rw [reg_eq]
  simp only [Option.bind_some]
  rw [sget_eq l m _ (fun n hn => by rw [h.len]; exact (regv_lt h.may hn).1)]
  simp only [Option.bind_some]
  congr 1
  cases hr : regv i with
  | none => show (wrap64 0, m) = (0, m); rw [w0]
  | some n => have := h.u32 n; simp only [sgetv]; rw [wrap64_id (by omega) (by omega)]
theorem Word_eq {N W R K : Int} {l : List Int} (h : OK N W R K l) (m b w : Int) : ground_Ground_Word.f l m N W R K b w = some (sgetv l m (wordv N W R b w)) := by
  unfold ground_Ground_Word.f ground_Ground_all.f
  simp only [Option.bind_some]
  rw [word_eq l m N W R K b w h.may]
  simp only [Option.bind_some]
  rw [sget_eq l m _ (fun n hn => by rw [h.len]; exact (wordv_lt h.may hn).1)]
  rfl
theorem set_eq {N W R K : Int} {l : List Int} (m : Int) (p : Option Nat) (hp : ∀ n, p = some n → n < l.length) (v : Int) : ground_Ground_set.f l m N W R K (posv p) v = some (if 0 ≤ v ∧ v < 4294967296 then sputv l m p v else (false, m, l)) := by
  unfold ground_Ground_set.f ground_Ground_all.f
  by_cases h0 : v < 0
  · rw [if_pos h0, if_neg (by omega)]
  · by_cases h1 : v > 4294967295
    · rw [if_neg h0, if_pos h1, if_neg (by omega)]
    · rw [if_neg h0, if_neg h1, if_pos (by omega)]
      simp only [Option.bind_some]
      rw [show v % 4294967296 = v by omega, sput_eq l m p v hp]
      rfl
theorem SetReg_eq {N W R K : Int} {l : List Int} (h : OK N W R K l) (m i v : Int) : ground_Ground_SetReg.f l m N W R K i v = some (if 0 ≤ v ∧ v < 4294967296 then sputv l m (regv i) v else (false, m, l)) := by
  unfold ground_Ground_SetReg.f
  rw [reg_eq]
  simp only [Option.bind_some]
  rw [set_eq m _ (fun n hn => by rw [h.len]; exact (regv_lt h.may hn).1)]
  rfl
theorem SetWord_eq {N W R K : Int} {l : List Int} (h : OK N W R K l) (m b w v : Int) : ground_Ground_SetWord.f l m N W R K b w v = some (sputv l m (wordv N W R b w) v) := by
  unfold ground_Ground_SetWord.f ground_Ground_all.f
  simp only [Option.bind_some]
  rw [word_eq l m N W R K b w h.may]
  simp only [Option.bind_some]
  rw [sput_eq l m _ v (fun n hn => by rw [h.len]; exact (wordv_lt h.may hn).1)]
  rfl
theorem mul_apart {W b c v w : Int} (hv : 0 ≤ v) (hv' : v < W) (hw : 0 ≤ w) (hw' : w < W) (h : b * W + v = c * W + w) : b = c ∧ v = w := by
  have hb : b = c := by
    rcases Int.lt_trichotomy b c with h1 | h1 | h1
    · have := Int.mul_le_mul_of_nonneg_right (show b + 1 ≤ c by omega) (show 0 ≤ W by omega)
      rw [Int.add_mul, Int.one_mul] at this
      omega
    · exact h1
    · have := Int.mul_le_mul_of_nonneg_right (show c + 1 ≤ b by omega) (show 0 ≤ W by omega)
      rw [Int.add_mul, Int.one_mul] at this
      omega
  subst hb
  exact ⟨rfl, by omega⟩

/-- popcount -/
def pc : Nat → Nat
  | 0 => 0
  | n + 1 => (n + 1) % 2 + pc ((n + 1) / 2)
termination_by n => n
decreasing_by omega

theorem pc_eq (n : Nat) : pc n = n % 2 + pc (n / 2) := by
  cases n with
  | zero => simp [pc]
  | succ n => rw [pc]

theorem and_pred_even (y : Nat) (h : 0 < y) : (2 * y) &&& (2 * y - 1) = 2 * (y &&& (y - 1)) := by
  have e : 2 * y - 1 = 2 * (y - 1) + 1 := by omega
  rw [e]
  apply Nat.eq_of_testBit_eq
  intro i
  cases i with
  | zero => simp [Nat.testBit_zero]
  | succ i =>
    rw [Nat.testBit_and, Nat.testBit_succ, Nat.testBit_succ, Nat.testBit_succ, show 2 * y / 2 = y by omega, show (2 * (y - 1) + 1) / 2 = y - 1 by omega, show 2 * (y &&& (y - 1)) / 2 = y &&& (y - 1) by omega, Nat.testBit_and]
theorem and_pred_odd (y : Nat) : (2 * y + 1) &&& (2 * y) = 2 * y := by
  apply Nat.eq_of_testBit_eq
  intro i
  cases i with
  | zero => simp [Nat.testBit_zero]
  | succ i =>
    rw [Nat.testBit_and, Nat.testBit_succ, Nat.testBit_succ, show 2 * y / 2 = y by omega, show (2 * y + 1) / 2 = y by omega, Bool.and_self]
theorem pc_double (n : Nat) : pc (2 * n) = pc n := by
  rw [pc_eq]; simp
theorem pc_double1 (n : Nat) : pc (2 * n + 1) = pc n + 1 := by
  rw [pc_eq, show (2 * n + 1) % 2 = 1 by omega, show (2 * n + 1) / 2 = n by omega]; omega
theorem pc_and_pred : ∀ n : Nat, 0 < n → pc (n &&& (n - 1)) + 1 = pc n := by
  intro n
  induction n using Nat.strongRecOn with
  | _ n ih =>
    intro h
    rcases Nat.mod_two_eq_zero_or_one n with e | e
    · obtain ⟨y, rfl⟩ : ∃ y, n = 2 * y := ⟨n / 2, by omega⟩
      rw [and_pred_even y (by omega), pc_double, pc_double, ih y (by omega) (by omega)]
    · obtain ⟨y, rfl⟩ : ∃ y, n = 2 * y + 1 := ⟨n / 2, by omega⟩
      rw [show 2 * y + 1 - 1 = 2 * y by omega, and_pred_odd, pc_double, pc_double1]
theorem and_pred_lt (n : Nat) (h : 0 < n) : n &&& (n - 1) < n := by
  have := @Nat.and_le_right n (n - 1)
  omega
theorem pc_pow (k n : Nat) (h : n < 2 ^ k) : pc n ≤ k := by
  induction k generalizing n with
  | zero => simp at h; subst h; simp [pc]
  | succ k ih =>
    rw [pc_eq]
    have := ih (n / 2) (by rw [Nat.pow_succ] at h; omega)
    omega

theorem u32_and (a b : Nat) (ha : a < 2 ^ 32) (hb : b < 2 ^ 32) : bits .and .u32 a b = ((a &&& b : Nat) : Int) :=
  (bits_nat .u32 32 (by decide) (fun n h0 h1 => by rw [IntKind.wrap_u32]; omega) a b ha hb).1
theorem u32_or (a b : Nat) (ha : a < 2 ^ 32) (hb : b < 2 ^ 32) : bits .or .u32 a b = ((a ||| b : Nat) : Int) :=
  (bits_nat .u32 32 (by decide) (fun n h0 h1 => by rw [IntKind.wrap_u32]; omega) a b ha hb).2

def getN (w a n : Nat) : Nat := w / 2 ^ a % 2 ^ n
def putN (w a n v : Nat) : Nat := 2 ^ a * (2 ^ n * (w / 2 ^ (a + n)) + v) + w % 2 ^ a

theorem getN_bit (w a n j : Nat) : (getN w a n).testBit j = (decide (j < n) && w.testBit (a + j)) := by
  unfold getN; rw [Nat.testBit_mod_two_pow, Nat.testBit_div_two_pow, Nat.add_comm]
theorem getN_lt (w a n : Nat) : getN w a n < 2 ^ n := Nat.mod_lt _ (Nat.two_pow_pos n)
theorem putN_bit (w a n v j : Nat) (hv : v < 2 ^ n) : (putN w a n v).testBit j = if j < a then w.testBit j else if j < a + n then v.testBit (j - a) else w.testBit j := by
  unfold putN
  rw [Nat.testBit_two_pow_mul_add _ (Nat.mod_lt _ (Nat.two_pow_pos a))]
  split
  · rename_i h; rw [Nat.testBit_mod_two_pow]; simp [h]
  · rename_i h
    rw [Nat.testBit_two_pow_mul_add _ hv]
    by_cases h2 : j < a + n
    · rw [if_pos (by omega), if_pos h2]
    · rw [if_neg (by omega), if_neg h2, Nat.testBit_div_two_pow]; congr 1; omega
theorem bit_big {v n j : Nat} (hv : v < 2 ^ n) (h : n ≤ j) : v.testBit j = false := Nat.testBit_lt_two_pow (Nat.lt_of_lt_of_le hv (Nat.pow_le_pow_right (by decide) h))
theorem putN_lt (w a n v m : Nat) (hv : v < 2 ^ n) (hw : w < 2 ^ m) (h : a + n ≤ m) : putN w a n v < 2 ^ m := by
  apply Nat.lt_pow_two_of_testBit
  intro j hj
  rw [putN_bit _ _ _ _ _ hv, if_neg (by omega), if_neg (by omega)]
  exact bit_big hw hj
theorem get_put (w a n v : Nat) (hv : v < 2 ^ n) : getN (putN w a n v) a n = v := by
  apply Nat.eq_of_testBit_eq
  intro j
  rw [getN_bit, putN_bit _ _ _ _ _ hv]
  by_cases h : j < n
  · rw [if_neg (by omega), if_pos (by omega)]; simp [h]
  · simp [h, bit_big hv (show n ≤ j by omega)]
theorem get_put_other (w a n v b m : Nat) (hv : v < 2 ^ n) (h : a + n ≤ b ∨ b + m ≤ a) : getN (putN w a n v) b m = getN w b m := by
  apply Nat.eq_of_testBit_eq
  intro j
  rw [getN_bit, getN_bit, putN_bit _ _ _ _ _ hv]
  by_cases hj : j < m
  · rcases h with h | h
    · rw [if_neg (by omega), if_neg (by omega)]
    · rw [if_pos (by omega)]
  · simp [hj]
theorem put_get (w a n v : Nat) (hv : v < 2 ^ n) : putN (putN w a n v) a n (getN w a n) = w := by
  apply Nat.eq_of_testBit_eq
  intro j
  rw [putN_bit _ _ _ _ _ (getN_lt _ _ _), putN_bit _ _ _ _ _ hv, getN_bit]
  by_cases h1 : j < a
  · simp [h1]
  · by_cases h2 : j < a + n
    · simp [h1, h2, show j - a < n by omega, show a + (j - a) = j by omega]
    · simp [h1, h2]
theorem and_mask (w a n : Nat) : w &&& ((2 ^ n - 1) * 2 ^ a) = getN w a n * 2 ^ a := by
  apply Nat.eq_of_testBit_eq
  intro j
  rw [Nat.testBit_and, Nat.testBit_mul_two_pow, Nat.testBit_mul_two_pow, getN_bit, Nat.testBit_two_pow_sub_one]
  by_cases h : a ≤ j
  · simp [h, show a + (j - a) = j by omega, Bool.and_comm]
  · simp [h]
theorem put_sum (w a n v : Nat) : putN w a n v + getN w a n * 2 ^ a = w + v * 2 ^ a := by
  unfold putN getN
  have h1 : w / 2 ^ (a + n) = w / 2 ^ a / 2 ^ n := by rw [Nat.pow_add, Nat.div_div_eq_div_mul]
  rw [h1]
  have h2 := Nat.div_add_mod w (2 ^ a)
  have h3 := Nat.div_add_mod (w / 2 ^ a) (2 ^ n)
  generalize w % 2 ^ a = m at *
  generalize w / 2 ^ a = q at *
  generalize q / 2 ^ n = p at *
  generalize q % 2 ^ n = r at *
  rw [← h2, ← h3, Nat.mul_add, Nat.mul_add, Nat.mul_comm r, Nat.mul_comm v]
  omega
/-- What Go's Put computes: the bits that are not the piece's, and v. -/
theorem put_bits (w a n v : Nat) (hw : w < 2 ^ 32) (hv : v < 2 ^ n) (h : a + n ≤ 32) :
    bits .or .u32 (bits .andNot .u32 w (((2 ^ n - 1) * 2 ^ a : Nat) : Int)) ((v * 2 ^ a : Nat) : Int) = ((putN w a n v : Nat) : Int) := by
  have hva : v * 2 ^ a < 2 ^ 32 := Nat.lt_of_lt_of_le (Nat.mul_lt_mul_of_pos_right hv (Nat.two_pow_pos a)) (by rw [← Nat.pow_add]; exact Nat.pow_le_pow_right (by decide) (by omega))
  have hma : (2 ^ n - 1) * 2 ^ a < 2 ^ 32 := Nat.lt_of_lt_of_le (Nat.mul_lt_mul_of_pos_right (Nat.sub_lt (Nat.two_pow_pos n) (by decide)) (Nat.two_pow_pos a)) (by rw [← Nat.pow_add]; exact Nat.pow_le_pow_right (by decide) (by omega))
  have e1 : bits .andNot .u32 (w : Int) (((2 ^ n - 1) * 2 ^ a : Nat) : Int) = (((BitVec.ofNat 32 w &&& ~~~ (BitVec.ofNat 32 ((2 ^ n - 1) * 2 ^ a))).toNat : Nat) : Int) := by
    have e : ∀ x : BitVec 32, IntKind.u32.wrap (x.toNat : Int) = ((x.toNat : Nat) : Int) := fun x => by
      rw [IntKind.wrap_u32]
      have := x.isLt
      omega
    simp only [bits, BitVec.ofInt_natCast]
    exact e _
  rw [e1, (bits_nat .u32 32 (by decide) (fun n h0 h1 => by rw [IntKind.wrap_u32]; omega) _ _ (BitVec.isLt _) hva).2]
  congr 1
  apply Nat.eq_of_testBit_eq
  intro j
  rw [Nat.testBit_or, BitVec.testBit_toNat, BitVec.getLsbD_and, BitVec.getLsbD_not, BitVec.getLsbD_ofNat, BitVec.getLsbD_ofNat, putN_bit _ _ _ _ _ hv, Nat.testBit_mul_two_pow, Nat.testBit_mul_two_pow, Nat.testBit_two_pow_sub_one]
  by_cases h32 : j < 32
  · by_cases h1 : j < a
    · simp [h32, h1, show ¬ a ≤ j by omega]
    · by_cases h2 : j < a + n
      · simp [h32, h1, h2, show a ≤ j by omega, show j - a < n by omega]
      · simp [h32, h1, h2, show a ≤ j by omega, show ¬ j - a < n by omega, bit_big hv (show n ≤ j - a by omega)]
  · simp [h32, show ¬ j < a by omega, show ¬ j < a + n by omega, show a ≤ j by omega, bit_big hv (show n ≤ j - a by omega), bit_big hw (show 32 ≤ j by omega)]
theorem w64 {n : Int} (h0 : 0 ≤ n) (h1 : n < 18446744073709551616) : IntKind.u64.wrap n = n := by rw [IntKind.wrap_u64]; omega
theorem two_le {a b : Nat} (h : a ≤ b) : 2 ^ a ≤ 2 ^ b := Nat.pow_le_pow_right (by decide) h
def piecev (at_ n : Int) : Prop := 0 ≤ at_ ∧ 1 ≤ n ∧ n ≤ 32 ∧ at_ ≤ 32 - n
instance (a n : Int) : Decidable (piecev a n) := by unfold piecev; infer_instance
theorem isPiece_eq (a n : Int) : pack_isPiece.f a n = some (decide (piecev a n)) := by
  unfold pack_isPiece.f
  by_cases h1 : a ≥ 0
  · rw [if_pos h1]
    by_cases h2 : n ≥ 1
    · rw [if_pos h2]
      by_cases h3 : n ≤ 32
      · rw [if_pos h3, wrap64_id (by omega) (by omega)]; congr 1; exact decide_eq_decide.2 (by unfold piecev; omega)
      · rw [if_neg h3]; congr 1; exact (decide_eq_false (by unfold piecev; omega)).symm
    · rw [if_neg h2]; congr 1; exact (decide_eq_false (by unfold piecev; omega)).symm
  · rw [if_neg h1]; congr 1; exact (decide_eq_false (by unfold piecev; omega)).symm
def capv (n : Int) : Nat := min n.toNat 32
def fitsv (v : Nat) (n : Int) : Prop := v < 2 ^ capv n
instance (v : Nat) (n : Int) : Decidable (fitsv v n) := by unfold fitsv; infer_instance
theorem mask_all : ∀ n < 33, ∀ a < 33, 1 ≤ n → a + n ≤ 32 → pack_mask.f (a : Nat) (n : Nat) = some (((2 ^ n - 1) * 2 ^ a : Nat) : Int) := by decide +kernel
theorem pget_eq (w : Nat) (hw : w < 4294967296) (a n : Int) : pack_Get.f w a n = some (if piecev a n then ((getN w a.toNat n.toNat : Nat) : Int) else 0) := by
  unfold pack_Get.f
  rw [isPiece_eq]
  simp only [Option.bind_some, decide_eq_true_eq]
  by_cases h : piecev a n
  · rw [if_pos h, if_pos h]
    obtain ⟨h1, h2, h3, h4⟩ := h
    obtain ⟨a, rfl⟩ := Int.eq_ofNat_of_zero_le h1
    obtain ⟨n, rfl⟩ := Int.eq_ofNat_of_zero_le (show 0 ≤ n by omega)
    have hmask : (2 ^ n - 1) * 2 ^ a < 2 ^ 32 := Nat.lt_of_lt_of_le (Nat.mul_lt_mul_of_pos_right (Nat.sub_lt (Nat.two_pow_pos n) (by decide)) (Nat.two_pow_pos a)) (by rw [← Nat.pow_add]; exact Nat.pow_le_pow_right (by decide) (by omega))
    rw [mask_all n (by omega) a (by omega) (by omega) (by omega)]
    simp only [Option.bind_some]
    rw [w64 (by omega) (by omega), if_pos (by omega), u32_and w _ (by omega) hmask, and_mask]
    simp only [Int.toNat_natCast]
    congr 1
    have e : (2 : Int) ^ min a 32 = ((2 ^ a : Nat) : Int) := by rw [Int.natCast_pow, show min a 32 = a by omega]; rfl
    rw [e, ← Int.natCast_ediv, Nat.mul_div_cancel _ (Nat.two_pow_pos a)]
  · rw [if_neg h, if_neg h]
def putv (w : Nat) (a n : Int) (v : Nat) : Int × Int := if piecev a n then (if fitsv v n then (((putN w a.toNat n.toNat v : Nat) : Int), 0) else (0, 15)) else (0, 2)
theorem one_eq (a n w : Nat) (hw : w < 4294967296) (hn : 1 ≤ n) (h : a + n ≤ 32) : tag_Unpack_1.f a n w = some ((w / 2 ^ a % 2 ^ n : Nat) : Int) := by
  unfold tag_Unpack_1.f
  rw [pget_eq w hw, if_pos (by unfold piecev; omega)]
  simp only [Option.bind_some, Int.toNat_natCast]
  unfold getN
  have h1 : w / 2 ^ a % 2 ^ n ≤ w / 2 ^ a := Nat.mod_le _ _
  have h2 : w / 2 ^ a ≤ w := Nat.div_le_self _ _
  rw [wrap64_id (by omega) (by omega)]
theorem unpack_eq (w : Nat) (hw : w < 4294967296) : tag_Unpack.f (w : Int) = some (((w % 4 : Nat) : Int), ((w / 4 % 2 : Nat) : Int), ((w / 8 % 2 : Nat) : Int), ((w / 16 % 2 : Nat) : Int), ((w / 32 % 2 : Nat) : Int), ((w / 64 % 2 : Nat) : Int), ((w / 256 : Nat) : Int)) := by
  unfold tag_Unpack.f
  have e0 := one_eq 0 2 w hw (by decide) (by decide)
  have e1 := one_eq 2 1 w hw (by decide) (by decide)
  have e2 := one_eq 3 1 w hw (by decide) (by decide)
  have e3 := one_eq 4 1 w hw (by decide) (by decide)
  have e4 := one_eq 5 1 w hw (by decide) (by decide)
  have e5 := one_eq 6 1 w hw (by decide) (by decide)
  have e6 := one_eq 8 24 w hw (by decide) (by decide)
  have z0 : w / 2 ^ 0 % 2 ^ 2 = w % 4 := by simp
  have z6 : w / 2 ^ 8 % 2 ^ 24 = w / 256 := by omega
  rw [z0] at e0
  rw [z6] at e6
  rw [show tag_Unpack_1.f 0 2 (w : Int) = _ from e0, show tag_Unpack_1.f 2 1 (w : Int) = _ from e1, show tag_Unpack_1.f 3 1 (w : Int) = _ from e2, show tag_Unpack_1.f 4 1 (w : Int) = _ from e3, show tag_Unpack_1.f 5 1 (w : Int) = _ from e4, show tag_Unpack_1.f 6 1 (w : Int) = _ from e5, show tag_Unpack_1.f 8 24 (w : Int) = _ from e6]
  rfl
/-- The place of a block's link word. -/
def linkp (W R b : Int) : Nat := (24 + R + b * W + 5).toNat
def link (W R : Int) (l : List Int) (b : Int) : Int := rd l (linkp W R b : Int)
theorem linkp_eq {N W R K : Int} (h : mayv N W R K) {b : Int} (hb : 0 ≤ b ∧ b < N) : wordv N W R b 5 = some (linkp W R b) := by
  unfold wordv linkp
  rw [if_pos ⟨hb, by decide, by have := h.2.2.1; omega⟩]
theorem linkp_lt {N W R K : Int} (h : mayv N W R K) {b : Int} (hb : 0 ≤ b ∧ b < N) : linkp W R b < sizev N W R ∧ 24 ≤ linkp W R b := by
  have := wordv_lt h (linkp_eq h hb)
  have hR := h.2.2.2.2.1
  omega
theorem linkp_inj {N W R K : Int} (h : mayv N W R K) {b c : Int} (hb : 0 ≤ b ∧ b < N) (hc : 0 ≤ c ∧ c < N) (e : linkp W R b = linkp W R c) : b = c := by
  have h1 := wordv_lt h (linkp_eq h hb)
  have h2 := wordv_lt h (linkp_eq h hc)
  have hW := h.2.2.1
  exact (mul_apart (W := W) (v := 5) (w := 5) (by decide) (by omega) (by decide) (by omega) (b := b) (c := c) (by omega)).1
theorem link_set {N W R K : Int} (h : mayv N W R K) {l : List Int} (hl : l.length = sizev N W R) {b c v : Int} (hb : 0 ≤ b ∧ b < N) (hc : 0 ≤ c ∧ c < N) : link W R (l.set (linkp W R b) v) c = if b = c then v else link W R l c := by
  unfold link
  rw [rd_setN _ _ _ _ (by rw [hl]; exact (linkp_lt h hb).1)]
  by_cases e : b = c
  · rw [if_pos (by rw [e]), if_pos e]
  · rw [if_neg (fun q => e (linkp_inj h hb hc q)), if_neg e]
theorem reg_link {N W R K : Int} (h : mayv N W R K) {l : List Int} (hl : l.length = sizev N W R) {b v : Int} (hb : 0 ≤ b ∧ b < N) {i : Nat} (hi : i < 24) : rd (l.set (linkp W R b) v) (i : Int) = rd l (i : Int) := by
  rw [rd_setN _ _ _ _ (by rw [hl]; exact (linkp_lt h hb).1), if_neg (by have := (linkp_lt h hb).2; omega)]
theorem size24 {N W R K : Int} (h : mayv N W R K) : 24 ≤ sizev N W R := by
  have := size_cast h
  have := nw_small h.1 h.2.1 h.2.2.1 h.2.2.2.1
  have hR := h.2.2.2.2.1
  generalize N * W = q at *
  omega
theorem link_reg {N W R K : Int} (h : mayv N W R K) {l : List Int} (hl : l.length = sizev N W R) {c v : Int} (hc : 0 ≤ c ∧ c < N) {i : Nat} (hi : i < 24) : link W R (l.set i v) c = link W R l c := by
  unfold link
  rw [rd_setN _ _ _ _ (by have := size24 h; omega), if_neg (by have := (linkp_lt h hc).2; omega)]
theorem reg_reg {N W R K : Int} (h : mayv N W R K) {l : List Int} (hl : l.length = sizev N W R) {v : Int} {i j : Nat} (hi : i < 24) : rd (l.set i v) (j : Int) = if i = j then v else rd l (j : Int) := by
  rw [rd_setN _ _ _ _ (by have := size24 h; omega)]
/-- So many accesses at most. -/
def Acc (c : Nat) (m m' : Int) : Prop := ∃ d : Nat, d ≤ c ∧ IntKind.u64.wrap m' = IntKind.u64.wrap (m + (d : Int))
theorem wrapu (n : Int) : IntKind.u64.wrap n = n % 18446744073709551616 := by
  unfold IntKind.wrap; simp [IntKind.signed, IntKind.bits]
theorem Acc.refl (c : Nat) (m : Int) : Acc c m m := ⟨0, Nat.zero_le _, by simp⟩
theorem Acc.step {c : Nat} {m m' : Int} (h : Acc c m m') : Acc (c + 1) m (IntKind.u64.wrap (m' + 1)) := by
  obtain ⟨d, hd, e⟩ := h
  refine ⟨d + 1, by omega, ?_⟩
  rw [wrapu, wrapu] at e
  rw [wrapu, wrapu, wrapu]
  omega
theorem Acc.trans {c d : Nat} {m m' m'' : Int} (h : Acc c m m') (k : Acc d m' m'') : Acc (c + d) m m'' := by
  obtain ⟨a, ha, e⟩ := h
  obtain ⟨b, hb, f⟩ := k
  refine ⟨a + b, by omega, ?_⟩
  rw [wrapu, wrapu] at e f
  rw [wrapu, wrapu]
  omega
theorem Acc.mono {c d : Nat} {m m' : Int} (h : Acc c m m') (hcd : c ≤ d) : Acc d m m' := by
  obtain ⟨a, ha, e⟩ := h
  exact ⟨a, by omega, e⟩
theorem Acc.sub {c : Nat} {m m' : Int} (h : Acc c m m') (hc : c < 1000000) : IntKind.u64.wrap (m' - m) ≤ (c : Int) := by
  obtain ⟨a, ha, e⟩ := h
  rw [wrapu, wrapu] at e
  rw [wrapu]
  omega
/-- The place of a block's word. -/
def wp (W R b w : Int) : Nat := (24 + R + b * W + w).toNat
def word (W R : Int) (l : List Int) (b w : Int) : Int := rd l (wp W R b w : Int)
theorem wp_eq {N W R K : Int} (h : mayv N W R K) {b w : Int} (hb : 0 ≤ b ∧ b < N) (hw : 0 ≤ w ∧ w < W) : wordv N W R b w = some (wp W R b w) := by
  unfold wordv wp
  rw [if_pos ⟨hb, hw⟩]
theorem wp_lt {N W R K : Int} (h : mayv N W R K) {b w : Int} (hb : 0 ≤ b ∧ b < N) (hw : 0 ≤ w ∧ w < W) : wp W R b w < sizev N W R ∧ 24 ≤ wp W R b w := by
  have := wordv_lt h (wp_eq h hb hw)
  have hR := h.2.2.2.2.1
  omega
theorem wp_inj {N W R K : Int} (h : mayv N W R K) {b c v w : Int} (hb : 0 ≤ b ∧ b < N) (hc : 0 ≤ c ∧ c < N) (hv : 0 ≤ v ∧ v < W) (hw : 0 ≤ w ∧ w < W) (e : wp W R b v = wp W R c w) : b = c ∧ v = w := by
  have h1 := wordv_lt h (wp_eq h hb hv)
  have h2 := wordv_lt h (wp_eq h hc hw)
  exact mul_apart (W := W) hv.1 hv.2 hw.1 hw.2 (b := b) (c := c) (by omega)
theorem word_set {N W R K : Int} (h : mayv N W R K) {l : List Int} (hl : l.length = sizev N W R) {b c v w x : Int} (hb : 0 ≤ b ∧ b < N) (hc : 0 ≤ c ∧ c < N) (hv : 0 ≤ v ∧ v < W) (hw : 0 ≤ w ∧ w < W) : word W R (l.set (wp W R b v) x) c w = if b = c ∧ v = w then x else word W R l c w := by
  unfold word
  rw [rd_setN _ _ _ _ (by rw [hl]; exact (wp_lt h hb hv).1)]
  by_cases e : b = c ∧ v = w
  · rw [if_pos (by rw [e.1, e.2]), if_pos e]
  · rw [if_neg (fun q => e (wp_inj h hb hc hv hw q)), if_neg e]
theorem reg_word {N W R K : Int} (h : mayv N W R K) {l : List Int} (hl : l.length = sizev N W R) {b v x : Int} (hb : 0 ≤ b ∧ b < N) (hv : 0 ≤ v ∧ v < W) {i : Nat} (hi : i < 24) : rd (l.set (wp W R b v) x) (i : Int) = rd l (i : Int) := by
  rw [rd_setN _ _ _ _ (by rw [hl]; exact (wp_lt h hb hv).1), if_neg (by have := (wp_lt h hb hv).2; omega)]
theorem word_reg {N W R K : Int} (h : mayv N W R K) {l : List Int} (hl : l.length = sizev N W R) {c v x : Int} (hc : 0 ≤ c ∧ c < N) (hv : 0 ≤ v ∧ v < W) {i : Nat} (hi : i < 24) : word W R (l.set i x) c v = word W R l c v := by
  unfold word
  rw [rd_setN _ _ _ _ (by have := size24 h; omega), if_neg (by have := (wp_lt h hc hv).2; omega)]
theorem five {N W R K : Int} (h : mayv N W R K) : (0 : Int) ≤ 5 ∧ 5 < W := by have := h.2.2.1; omega
/-- What a chain's operations leave as it was. -/
structure Fram (N W R : Int) (r : Nat) (l l' : List Int) : Prop where
  regs : ∀ i : Nat, i < 24 → (i < r ∨ r + 2 < i) → rd l' (i : Int) = rd l (i : Int)
  words : ∀ b w : Int, 0 ≤ b ∧ b < N → 0 ≤ w ∧ w < W → w ≠ 5 → word W R l' b w = word W R l b w
theorem Fram.refl {N W R : Int} {r : Nat} (l : List Int) : Fram N W R r l l := ⟨fun _ _ _ => rfl, fun _ _ _ _ _ => rfl⟩
theorem Fram.reg {N W R K : Int} (h : mayv N W R K) {r i : Nat} {l m : List Int} (hl : m.length = sizev N W R) (hi : i < 24 ∧ r ≤ i ∧ i ≤ r + 2) {v : Int} (hf : Fram N W R r l m) : Fram N W R r l (m.set i v) :=
  ⟨fun j hj hd => by rw [reg_reg h hl hi.1, if_neg (by omega)]; exact hf.regs j hj hd, fun b w hb hw hn => by rw [word_reg h hl hb hw hi.1]; exact hf.words b w hb hw hn⟩
theorem Fram.link {N W R K : Int} (h : mayv N W R K) {r : Nat} {l m : List Int} (hl : m.length = sizev N W R) {b v : Int} (hb : 0 ≤ b ∧ b < N) (hf : Fram N W R r l m) : Fram N W R r l (m.set (linkp W R b) v) :=
  ⟨fun j hj hd => by rw [reg_link h hl hb hj]; exact hf.regs j hj hd, fun c w hc hw hn => by
    have := word_set h hl (x := v) hb hc (five h) hw
    rw [if_neg (fun q => hn q.2.symm)] at this
    exact this.trans (hf.words c w hc hw hn)⟩
/-- A word is set that is no link of a chain's block. -/
theorem link_word {N W R K : Int} (h : mayv N W R K) {l : List Int} (hl : l.length = sizev N W R) {b c v x : Int} (hb : 0 ≤ b ∧ b < N) (hc : 0 ≤ c ∧ c < N) (hv : 0 ≤ v ∧ v < W) : link W R (l.set (wp W R b v) x) c = if b = c ∧ v = 5 then x else link W R l c := word_set h hl hb hc hv (five h)
/-- The blocks hang together by their links. -/
def Linked (W R : Int) (l : List Int) : List Int → Prop
  | [] => True
  | [a] => link W R l a = 0
  | a :: b :: r => link W R l a = b + 1 ∧ Linked W R l (b :: r)
theorem Linked.same {W R : Int} {l l' : List Int} : ∀ {L : List Int}, (∀ x ∈ L, link W R l' x = link W R l x) → Linked W R l L → Linked W R l' L
  | [], _, _ => trivial
  | [a], h, hL => by
    show link W R l' a = 0
    rw [h a (by simp)]; exact hL
  | a :: b :: r, h, hL => ⟨by rw [h a (by simp)]; exact hL.1, Linked.same (L := b :: r) (fun x hx => h x (by simp at hx ⊢; right; exact hx)) hL.2⟩
theorem Linked.tail {W R : Int} {l : List Int} {a : Int} : ∀ {L : List Int}, Linked W R l (a :: L) → Linked W R l L
  | [], _ => trivial
  | _ :: _, h => h.2
def headv : List Int → Int
  | [] => 0
  | a :: _ => a + 1
def lastv : List Int → Int
  | [] => 0
  | [a] => a + 1
  | _ :: b :: r => lastv (b :: r)
theorem lastv_snoc (b : Int) : ∀ L : List Int, lastv (L ++ [b]) = b + 1
  | [] => rfl
  | [_] => rfl
  | _ :: c :: r => lastv_snoc b (c :: r)
/-- One more behind: the last one's link, and the new one's. -/
theorem Linked.snoc {W R : Int} {l l' : List Int} {b : Int} : ∀ {L : List Int}, L.Nodup → (∀ x ∈ L, x + 1 ≠ lastv L → link W R l' x = link W R l x) → (∀ x ∈ L, x + 1 = lastv L → link W R l' x = b + 1) → link W R l' b = 0 → Linked W R l L → Linked W R l' (L ++ [b])
  | [], _, _, _, hb, _ => hb
  | [a], _, _, h2, hb, _ => ⟨h2 a (by simp) rfl, hb⟩
  | a :: c :: r, hn, h1, h2, hb, hL => by
    have hne : a + 1 ≠ lastv (a :: c :: r) := by
      intro e
      have hm : ∀ (M : List Int) (d : Int), ∃ y ∈ (d :: M), y + 1 = lastv (d :: M) := by
        intro M
        induction M with
        | nil => intro d; exact ⟨d, by simp, rfl⟩
        | cons f M ih => intro d; obtain ⟨y, hy, he⟩ := ih f; exact ⟨y, by simp at hy ⊢; right; exact hy, he⟩
      obtain ⟨y, hy, he⟩ := hm r c
      have : y = a := by
        have e' : a + 1 = lastv (c :: r) := e
        omega
      subst this
      exact (List.nodup_cons.1 hn).1 hy
    refine ⟨by rw [h1 a (by simp) hne]; exact hL.1, ?_⟩
    exact Linked.snoc (L := c :: r) (List.nodup_cons.1 hn).2 (fun x hx hq => h1 x (by simp at hx ⊢; right; exact hx) hq) (fun x hx hq => h2 x (by simp at hx ⊢; right; exact hx) hq) hb hL.2
/-- A chain's blocks L stand so: its three registers (from r on) and the links. -/
structure Chain (N W R : Int) (l : List Int) (r : Nat) (L : List Int) : Prop where
  mem : ∀ x ∈ L, 0 ≤ x ∧ x < N
  nd : L.Nodup
  first : rd l (r : Int) = headv L
  last : rd l ((r + 1 : Nat) : Int) = lastv L
  count : rd l ((r + 2 : Nat) : Int) = (L.length : Int)
  links : Linked W R l L
theorem Chain.word {N W R K : Int} (h : mayv N W R K) {l : List Int} (hl : l.length = sizev N W R) {r : Nat} {L : List Int} (hr : r + 2 < 24) {b w : Int} (hb : 0 ≤ b ∧ b < N) (hw : 0 ≤ w ∧ w < W) (hn : w ≠ 5 ∨ b ∉ L) (v : Int) (hc : Chain N W R l r L) : Chain N W R (l.set (wp W R b w) v) r L :=
  ⟨hc.mem, hc.nd, by rw [reg_word h hl hb hw (by omega)]; exact hc.first, by rw [reg_word h hl hb hw (by omega)]; exact hc.last, by rw [reg_word h hl hb hw (by omega)]; exact hc.count,
   hc.links.same fun x hx => by rw [link_word h hl hb (hc.mem x hx) hw, if_neg (fun e => by rcases hn with hn | hn; exact hn e.2; exact hn (by rw [e.1]; exact hx))]⟩
def chainAt (k : Int) (r : Nat) : Prop := k = 0 ∧ r = 0 ∨ k = 1 ∧ r = 3
theorem of_at (l : List Int) (m N W R K : Int) {k : Int} {r : Nat} (h : chainAt k r) : chain_of.f l m N W R K k = some ((r : Int), ((r + 1 : Nat) : Int), ((r + 2 : Nat) : Int), true) := by
  unfold chain_of.f
  rcases h with ⟨rfl, rfl⟩ | ⟨rfl, rfl⟩
  · rw [if_neg (by decide), if_neg (by decide), wrap64_id (n := 3 * 0) (by decide) (by decide), wrap64_id (n := 3 * 0 + 1) (by decide) (by decide), wrap64_id (n := 3 * 0 + 2) (by decide) (by decide)]; rfl
  · rw [if_neg (by decide), if_neg (by decide), wrap64_id (n := 3 * 1) (by decide) (by decide), wrap64_id (n := 3 * 1 + 1) (by decide) (by decide), wrap64_id (n := 3 * 1 + 2) (by decide) (by decide)]; rfl
theorem regv_nat {i : Nat} (h : i < 24) : regv (i : Int) = some i := by
  unfold regv; rw [if_pos (by omega)]; simp
theorem Reg_at {N W R K : Int} {l : List Int} (h : OK N W R K l) (m : Int) {i : Nat} (hi : i < 24) : ground_Ground_Reg.f l m N W R K (i : Int) = some (rd l (i : Int), IntKind.u64.wrap (m + 1)) := by
  rw [Reg_eq h, regv_nat hi]; rfl
theorem SetReg_at {N W R K : Int} {l : List Int} (h : OK N W R K l) (m : Int) {i : Nat} (hi : i < 24) (v : Int) (hv : 0 ≤ v ∧ v < 4294967296) : ground_Ground_SetReg.f l m N W R K (i : Int) v = some (true, IntKind.u64.wrap (m + 1), l.set i v) := by
  rw [SetReg_eq h, if_pos hv, regv_nat hi]; rfl
theorem SetLink_at {N W R K : Int} {l : List Int} (h : OK N W R K l) (m : Int) {b : Int} (hb : 0 ≤ b ∧ b < N) (v : Int) : ground_Ground_SetWord.f l m N W R K b 5 v = some (true, IntKind.u64.wrap (m + 1), l.set (linkp W R b) v) := by
  rw [SetWord_eq h, linkp_eq h.may hb]; rfl
theorem Link_at {N W R K : Int} {l : List Int} (h : OK N W R K l) (m : Int) {b : Int} (hb : 0 ≤ b ∧ b < N) : ground_Ground_Word.f l m N W R K b 5 = some (link W R l b, IntKind.u64.wrap (m + 1)) := by
  rw [Word_eq h, linkp_eq h.may hb]; rfl
theorem lastv_mem : ∀ {L : List Int}, L ≠ [] → ∃ y ∈ L, lastv L = y + 1
  | [], h => absurd rfl h
  | [a], _ => ⟨a, by simp, rfl⟩
  | _ :: c :: r, _ => by
    obtain ⟨y, hy, he⟩ := lastv_mem (L := c :: r) (by simp)
    exact ⟨y, by simp at hy ⊢; right; exact hy, he⟩
/-- A chain that is not touched: other registers are set, other blocks' links. -/
theorem Chain.reg {N W R K : Int} (h : mayv N W R K) {l : List Int} (hl : l.length = sizev N W R) {r i : Nat} {L : List Int} (hi : i < 24) (hr : r + 2 < 24) (hd : i < r ∨ r + 2 < i) (v : Int) (hc : Chain N W R l r L) : Chain N W R (l.set i v) r L :=
  ⟨hc.mem, hc.nd, by rw [reg_reg h hl hi, if_neg (by omega)]; exact hc.first, by rw [reg_reg h hl hi, if_neg (by omega)]; exact hc.last, by rw [reg_reg h hl hi, if_neg (by omega)]; exact hc.count,
   hc.links.same fun x hx => link_reg h hl (hc.mem x hx) hi⟩
theorem Chain.link {N W R K : Int} (h : mayv N W R K) {l : List Int} (hl : l.length = sizev N W R) {r : Nat} {L : List Int} (hr : r + 2 < 24) {b : Int} (hb : 0 ≤ b ∧ b < N) (hn : b ∉ L) (v : Int) (hc : Chain N W R l r L) : Chain N W R (l.set (linkp W R b) v) r L :=
  ⟨hc.mem, hc.nd, by rw [reg_link h hl hb (by omega)]; exact hc.first, by rw [reg_link h hl hb (by omega)]; exact hc.last, by rw [reg_link h hl hb (by omega)]; exact hc.count,
   hc.links.same fun x hx => by rw [link_set h hl hb (hc.mem x hx), if_neg (fun e => hn (by rw [e]; exact hx))]⟩
/-- What is added stands behind; the other chain stays as it is. -/
theorem add_chain {N W R K : Int} {l : List Int} (h : OK N W R K l) (m : Int) {k : Int} {r q : Nat} {L M : List Int} (hk : chainAt k r) (hq : q + 2 < 24 ∧ (q + 2 < r ∨ r + 2 < q)) (hL : Chain N W R l r L) (hM : Chain N W R l q M)
    {b : Int} (hb : 0 ≤ b ∧ b < N) (hbL : b ∉ L) (hbM : b ∉ M) (hML : ∀ x ∈ L, x ∉ M) (hlen : L.length < 1000000) :
    ∃ m' l', chain_Add.f l m N W R K k b = some (true, m', l') ∧ OK N W R K l' ∧ Chain N W R l' r (L ++ [b]) ∧ Chain N W R l' q M ∧ Acc 16 m m' ∧ Fram N W R r l l' := by
  have hN := h.may.2.1
  have hr : r + 2 < 24 := by rcases hk with ⟨_, rfl⟩ | ⟨_, rfl⟩ <;> decide
  have hwb : wrap64 (b + 1) = b + 1 := wrap64_id (by omega) (by omega)
  have h1 := h.set (linkp W R b) 0 (by decide) (by decide)
  unfold chain_Add.f chain_put_F144.f
  rw [of_at _ _ _ _ _ _ hk]
  simp only [Option.bind_some, if_true, ground_Ground_Conf.f]
  rw [if_neg (by omega), if_neg (by omega), Reg_at h m (by omega), hL.count]
  simp only [Option.bind_some]
  have hcnt : wrap64 ((L.length : Int) + 1) = ((L.length + 1 : Nat) : Int) := by rw [wrap64_id (by omega) (by omega)]; omega
  unfold chain_Add_1.f
  rw [SetLink_at h _ hb]
  simp only [Option.bind_some]
  by_cases hz : (L.length : Int) = 0
  · have hnil : L = [] := List.eq_nil_of_length_eq_zero (by omega)
    subst hnil
    rw [if_pos hz, hwb, SetReg_at h1 _ (i := r) (by omega) (b + 1) (by omega)]
    simp only [Option.bind_some]
    have h2 := h1.set r (b + 1) (by omega) (by omega)
    rw [SetReg_at h2 _ (i := r + 1) (by omega) (b + 1) (by omega)]
    simp only [Option.bind_some]
    have h3 := h2.set (r + 1) (b + 1) (by omega) (by omega)
    rw [hcnt, SetReg_at h3 _ (i := r + 2) (by omega) _ (by omega)]
    refine ⟨_, _, rfl, h3.set _ _ (by omega) (by omega), ⟨by simpa using hb, by simp, ?_, ?_, ?_, ?_⟩, ?_, by repeat (first | with_reducible refine Acc.step ?_ | exact Acc.refl _ _), by repeat (first | exact Fram.refl _ | with_reducible refine Fram.link h.may (by first | exact h.len | (simp only [List.length_set]; exact h.len)) (by first | exact hb | exact hL.mem _ (by assumption)) ?_ | refine Fram.reg h.may (by first | exact h.len | (simp only [List.length_set]; exact h.len)) (by omega) ?_)⟩
    · rw [reg_reg h.may h3.len (by omega), if_neg (by omega), reg_reg h.may h2.len (by omega), if_neg (by omega), reg_reg h.may h1.len (by omega), if_pos rfl]; rfl
    · rw [reg_reg h.may h3.len (by omega), if_neg (by omega), reg_reg h.may h2.len (by omega), if_pos rfl]; rfl
    · rw [reg_reg h.may h3.len (by omega), if_pos rfl]; rfl
    · show link W R _ b = 0
      rw [link_reg h.may h3.len hb (by omega), link_reg h.may h2.len hb (by omega), link_reg h.may h1.len hb (by omega), link_set h.may h.len hb hb, if_pos rfl]
    · exact (((hM.link h.may h.len hq.1 hb hbM 0).reg h.may h1.len (by omega) hq.1 (by omega) _).reg h.may h2.len (by omega) hq.1 (by omega) _).reg h.may h3.len (by omega) hq.1 (by omega) _
  · have hne : L ≠ [] := fun e => hz (by rw [e]; rfl)
    obtain ⟨e, he, hle⟩ := lastv_mem hne
    have heN := hL.mem e he
    have hwe : wrap64 (e + 1 - 1) = e := by rw [wrap64_id (by omega) (by omega)]; omega
    rw [if_neg hz, Reg_at h1 _ (i := r + 1) (by omega), reg_link h.may h.len hb (by omega), hL.last, hle]
    simp only [Option.bind_some]
    rw [hwe, hwb, show (b + 1) % 4294967296 = b + 1 by omega, SetLink_at h1 _ heN]
    simp only [Option.bind_some]
    have h2 := h1.set (linkp W R e) (b + 1) (by omega) (by omega)
    rw [SetReg_at h2 _ (i := r + 1) (by omega) (b + 1) (by omega)]
    simp only [Option.bind_some]
    have h3 := h2.set (r + 1) (b + 1) (by omega) (by omega)
    rw [hcnt, SetReg_at h3 _ (i := r + 2) (by omega) _ (by omega)]
    have hbe : b ≠ e := fun q => hbL (by rw [q]; exact he)
    refine ⟨_, _, rfl, h3.set _ _ (by omega) (by omega), ⟨?_, ?_, ?_, ?_, ?_, ?_⟩, ?_, by repeat (first | with_reducible refine Acc.step ?_ | exact Acc.refl _ _), by repeat (first | exact Fram.refl _ | with_reducible refine Fram.link h.may (by first | exact h.len | (simp only [List.length_set]; exact h.len)) (by first | exact hb | exact hL.mem _ (by assumption)) ?_ | refine Fram.reg h.may (by first | exact h.len | (simp only [List.length_set]; exact h.len)) (by omega) ?_)⟩
    · intro x hx
      rcases List.mem_append.1 hx with hx | hx
      · exact hL.mem x hx
      · simp at hx; subst hx; exact hb
    · exact List.nodup_append.2 ⟨hL.nd, by simp, fun x hx y hy => by simp at hy; subst hy; exact fun q => hbL (by rw [← q]; exact hx)⟩
    · rw [reg_reg h.may h3.len (by omega), if_neg (by omega), reg_reg h.may h2.len (by omega), if_neg (by omega), reg_link h.may h1.len heN (by omega), reg_link h.may h.len hb (by omega), hL.first]
      cases L with
      | nil => exact absurd rfl hne
      | cons a t => rfl
    · rw [reg_reg h.may h3.len (by omega), if_neg (by omega), reg_reg h.may h2.len (by omega), if_pos rfl, lastv_snoc]
    · rw [reg_reg h.may h3.len (by omega), if_pos rfl]; simp
    · have lk : ∀ x, 0 ≤ x ∧ x < N → link W R ((((l.set (linkp W R b) 0).set (linkp W R e) (b + 1)).set (r + 1) (b + 1)).set (r + 2) ((L.length + 1 : Nat) : Int)) x = if e = x then b + 1 else if b = x then 0 else link W R l x := by
        intro x hx
        rw [link_reg h.may h3.len hx (by omega), link_reg h.may h2.len hx (by omega), link_set h.may h1.len heN hx, link_set h.may h.len hb hx]
      refine Linked.snoc (l := l) hL.nd (fun x hx hq => ?_) (fun x hx hq => ?_) ?_ hL.links
      · rw [lk x (hL.mem x hx), if_neg (by omega), if_neg (fun q => hbL (by rw [q]; exact hx))]
      · rw [lk x (hL.mem x hx), if_pos (by omega)]
      · rw [lk b hb, if_neg (fun q => hbe q.symm), if_pos rfl]
    · exact ((((hM.link h.may h.len hq.1 hb hbM 0).link h.may h1.len hq.1 heN (hML e he) _).reg h.may h2.len (by omega) hq.1 (by omega) _).reg h.may h3.len (by omega) hq.1 (by omega) _)
theorem Linked.head {W R : Int} {l : List Int} {a : Int} : ∀ {t : List Int}, Linked W R l (a :: t) → link W R l a = headv t
  | [], h => h
  | _ :: _, h => h.1
theorem headv_range {N : Int} : ∀ {t : List Int}, (∀ x ∈ t, 0 ≤ x ∧ x < N) → N ≤ 1048576 → 0 ≤ headv t ∧ headv t < 4294967296
  | [], _, _ => by decide
  | a :: t, h, hN => by have := h a (by simp); show 0 ≤ a + 1 ∧ a + 1 < 4294967296; omega
theorem headv_zero {N : Int} : ∀ {t : List Int}, (∀ x ∈ t, 0 ≤ x ∧ x < N) → headv t = 0 → t = []
  | [], _, _ => rfl
  | a :: t, h, e => by have := h a (by simp); have e' : a + 1 = 0 := e; omega
/-- The first one is taken. -/
theorem take_chain {N W R K : Int} {l : List Int} (h : OK N W R K l) (m : Int) {k : Int} {r q : Nat} {a : Int} {L M : List Int} (hk : chainAt k r) (hq : q + 2 < 24 ∧ (q + 2 < r ∨ r + 2 < q)) (hL : Chain N W R l r (a :: L)) (hM : Chain N W R l q M)
    (haM : a ∉ M) (hlen : L.length < 1000000) :
    ∃ m' l', chain_Take.f l m N W R K k = some (a, true, m', l') ∧ OK N W R K l' ∧ Chain N W R l' r L ∧ Chain N W R l' q M ∧ Acc 16 m m' ∧ Fram N W R r l l' ∧ link W R l' a = 0 := by
  have hN := h.may.2.1
  have hr : r + 2 < 24 := by rcases hk with ⟨_, rfl⟩ | ⟨_, rfl⟩ <;> decide
  have ha := hL.mem a (by simp)
  have hmem : ∀ x ∈ L, 0 ≤ x ∧ x < N := fun x hx => hL.mem x (by simp [hx])
  have hnd := List.nodup_cons.1 hL.nd
  have hh := headv_range hmem hN
  have hwa : wrap64 (a + 1 - 1) = a := by rw [wrap64_id (by omega) (by omega)]; omega
  have hc := hL.count
  have hcnt : wrap64 ((((a :: L).length : Nat) : Int) - 1) = (L.length : Int) := by rw [List.length_cons, wrap64_id (by omega) (by omega)]; omega
  unfold chain_Take.f
  rw [of_at _ _ _ _ _ _ hk]
  simp only [Option.bind_some, if_true]
  rw [Reg_at h m (i := r) (by omega), hL.first]
  simp only [Option.bind_some, headv]
  rw [if_neg (by omega), hwa, Link_at h _ ha, hL.links.head]
  simp only [Option.bind_some]
  rw [SetLink_at h _ ha]
  simp only [Option.bind_some]
  have h1 := h.set (linkp W R a) 0 (by decide) (by decide)
  rw [wrap64_id (n := headv L) (by omega) (by omega), SetReg_at h1 _ (i := r) (by omega) _ hh]
  simp only [Option.bind_some]
  have h2 := h1.set r (headv L) hh.1 hh.2
  have lks : ∀ {l' : List Int}, (∀ x, 0 ≤ x ∧ x < N → link W R l' x = if a = x then 0 else link W R l x) → Linked W R l' L := by
    intro l' lk
    exact hL.links.tail.same fun x hx => by rw [lk x (hmem x hx), if_neg (fun e => hnd.1 (by rw [e]; exact hx))]
  by_cases hz : headv L = 0
  · have hnil := headv_zero hmem hz
    rw [if_pos hz, SetReg_at h2 _ (i := r + 1) (by omega) 0 (by decide)]
    simp only [Option.bind_some]
    have h3 := h2.set (r + 1) 0 (by decide) (by decide)
    rw [Reg_at h3 _ (i := r + 2) (by omega), reg_reg h.may h2.len (by omega), if_neg (by omega), reg_reg h.may h1.len (by omega), if_neg (by omega), reg_link h.may h.len ha (by omega), hc]
    simp only [Option.bind_some]
    rw [hcnt, SetReg_at h3 _ (i := r + 2) (by omega) _ (by omega)]
    refine ⟨_, _, rfl, h3.set _ _ (by omega) (by omega), ⟨hmem, hnd.2, ?_, ?_, ?_, lks fun x hx => ?_⟩, ?_, by repeat (first | with_reducible refine Acc.step ?_ | exact Acc.refl _ _), by repeat (first | exact Fram.refl _ | with_reducible refine Fram.link h.may (by first | exact h.len | (simp only [List.length_set]; exact h.len)) (by first | exact ha) ?_ | refine Fram.reg h.may (by first | exact h.len | (simp only [List.length_set]; exact h.len)) (by omega) ?_), by rw [link_reg h.may h3.len ha (by omega), link_reg h.may h2.len ha (by omega), link_reg h.may h1.len ha (by omega), link_set h.may h.len ha ha, if_pos rfl]⟩
    · rw [reg_reg h.may h3.len (by omega), if_neg (by omega), reg_reg h.may h2.len (by omega), if_neg (by omega), reg_reg h.may h1.len (by omega), if_pos rfl]
    · rw [reg_reg h.may h3.len (by omega), if_neg (by omega), reg_reg h.may h2.len (by omega), if_pos rfl, hnil]; rfl
    · rw [reg_reg h.may h3.len (by omega), if_pos rfl]
    · rw [link_reg h.may h3.len hx (by omega), link_reg h.may h2.len hx (by omega), link_reg h.may h1.len hx (by omega), link_set h.may h.len ha hx]
    · exact (((hM.link h.may h.len hq.1 ha haM _).reg h.may h1.len (by omega) hq.1 (by omega) _).reg h.may h2.len (by omega) hq.1 (by omega) _).reg h.may h3.len (by omega) hq.1 (by omega) _
  · have hne : L ≠ [] := fun e => hz (by rw [e]; rfl)
    rw [if_neg hz, Reg_at h2 _ (i := r + 2) (by omega), reg_reg h.may h1.len (by omega), if_neg (by omega), reg_link h.may h.len ha (by omega), hc]
    simp only [Option.bind_some]
    rw [hcnt, SetReg_at h2 _ (i := r + 2) (by omega) _ (by omega)]
    refine ⟨_, _, rfl, h2.set _ _ (by omega) (by omega), ⟨hmem, hnd.2, ?_, ?_, ?_, lks fun x hx => ?_⟩, ?_, by repeat (first | with_reducible refine Acc.step ?_ | exact Acc.refl _ _), by repeat (first | exact Fram.refl _ | with_reducible refine Fram.link h.may (by first | exact h.len | (simp only [List.length_set]; exact h.len)) (by first | exact ha) ?_ | refine Fram.reg h.may (by first | exact h.len | (simp only [List.length_set]; exact h.len)) (by omega) ?_), by rw [link_reg h.may h2.len ha (by omega), link_reg h.may h1.len ha (by omega), link_set h.may h.len ha ha, if_pos rfl]⟩
    · rw [reg_reg h.may h2.len (by omega), if_neg (by omega), reg_reg h.may h1.len (by omega), if_pos rfl]
    · rw [reg_reg h.may h2.len (by omega), if_neg (by omega), reg_reg h.may h1.len (by omega), if_neg (by omega), reg_link h.may h.len ha (by omega), hL.last]
      cases L with
      | nil => exact absurd rfl hne
      | cons c t => rfl
    · rw [reg_reg h.may h2.len (by omega), if_pos rfl]
    · rw [link_reg h.may h2.len hx (by omega), link_reg h.may h1.len hx (by omega), link_set h.may h.len ha hx]
    · exact ((hM.link h.may h.len hq.1 ha haM _).reg h.may h1.len (by omega) hq.1 (by omega) _).reg h.may h2.len (by omega) hq.1 (by omega) _
theorem take_none {N W R K : Int} {l : List Int} (h : OK N W R K l) (m : Int) {k : Int} {r : Nat} (hk : chainAt k r) (hL : Chain N W R l r []) : ∃ m', chain_Take.f l m N W R K k = some (0, false, m', l) := by
  have hr : r + 2 < 24 := by rcases hk with ⟨_, rfl⟩ | ⟨_, rfl⟩ <;> decide
  refine ⟨IntKind.u64.wrap (m + 1), ?_⟩
  unfold chain_Take.f
  rw [of_at _ _ _ _ _ _ hk]
  simp only [Option.bind_some, if_true]
  rw [Reg_at h m (i := r) (by omega), hL.first]
  simp only [Option.bind_some, headv, if_true]
theorem len_chain {N W R K : Int} {l : List Int} (h : OK N W R K l) (m : Int) {k : Int} {r : Nat} {L : List Int} (hk : chainAt k r) (hL : Chain N W R l r L) : chain_Len.f l m N W R K k = some ((L.length : Int), IntKind.u64.wrap (m + 1)) := by
  have hr : r + 2 < 24 := by rcases hk with ⟨_, rfl⟩ | ⟨_, rfl⟩ <;> decide
  unfold chain_Len.f
  rw [of_at _ _ _ _ _ _ hk]
  simp only [Option.bind_some, if_true]
  rw [Reg_at h m (i := r + 2) (by omega), hL.count]
  rfl
theorem chain_empty {N W R K : Int} (h : mayv N W R K) {r : Nat} : Chain N W R (List.replicate (sizev N W R) 0) r [] := by
  have hz : ∀ i : Int, rd (List.replicate (sizev N W R) (0 : Int)) i = 0 := fun i => by
    simp only [rd, List.getD_eq_getElem?_getD, List.getElem?_replicate]
    split <;> rfl
  exact ⟨by simp, by simp, hz _, hz _, hz _, trivial⟩
def peekv (l : List Int) (p : Option Nat) : Int := match p with
  | some n => rd l (n : Int)
  | none => 0
theorem speek_eq (l : List Int) (m : Int) (p : Option Nat) (hp : ∀ n, p = some n → n < l.length) : store_Store_Peek.f l m (posv p) = some (peekv l p) := by
  rw [peek_eq]
  cases p with
  | none => rw [if_neg (by simp [posv])]; rfl
  | some n => have := hp n rfl; rw [if_pos (by simp [posv]; omega)]; rfl
theorem SeeReg_at {N W R K : Int} {l : List Int} (h : OK N W R K l) (m : Int) {i : Nat} (hi : i < 24) : ground_Ground_SeeReg.f l m N W R K (i : Int) = some (rd l (i : Int)) := by
  unfold ground_Ground_SeeReg.f ground_Ground_all.f
  simp only [Option.bind_some]
  rw [reg_eq, regv_nat hi]
  simp only [Option.bind_some]
  rw [speek_eq l m _ (fun n hn => by rw [h.len]; cases hn; have := size24 h.may; omega)]
  simp only [Option.bind_some, peekv]
  have := h.u32 i
  rw [wrap64_id (by omega) (by omega)]
theorem SeeLink_at {N W R K : Int} {l : List Int} (h : OK N W R K l) (m : Int) {b : Int} (hb : 0 ≤ b ∧ b < N) : ground_Ground_SeeWord.f l m N W R K b 5 = some (link W R l b) := by
  unfold ground_Ground_SeeWord.f ground_Ground_all.f
  simp only [Option.bind_some]
  rw [word_eq l m N W R K b 5 h.may, linkp_eq h.may hb]
  simp only [Option.bind_some]
  rw [speek_eq l m _ (fun n hn => by rw [h.len]; cases hn; exact (linkp_lt h.may hb).1)]
  rfl
/-- The numbers from p to below b. -/
def iv (p b : Nat) : List Int := (List.range' p (b - p)).map (fun i : Nat => (i : Int))
theorem iv_mem {p b : Nat} {x : Int} (h : x ∈ iv p b) : (p : Int) ≤ x ∧ x < (b : Int) := by
  unfold iv at h
  obtain ⟨i, hi, rfl⟩ := List.mem_map.1 h
  have := List.mem_range'_1.1 hi
  omega
theorem iv_len (p b : Nat) : (iv p b).length = b - p := by simp [iv]
theorem iv_self (p : Nat) : iv p p = [] := by simp [iv]
theorem iv_snoc {p b : Nat} (h : p ≤ b) : iv p (b + 1) = iv p b ++ [(b : Int)] := by
  unfold iv
  rw [show b + 1 - p = (b - p) + 1 by omega, List.range'_concat, List.map_append]
  simp; omega
theorem iv_cons {b n : Nat} (h : b < n) : iv b n = (b : Int) :: iv (b + 1) n := by
  unfold iv
  rw [show n - b = (n - (b + 1)) + 1 by omega, List.range'_succ]
  rfl
theorem bind_is {α β : Type} {x : Option α} {a : α} (h : x = some a) (f : α → Option β) : x.bind f = f a := by rw [h]; rfl
theorem SetWord_at {N W R K : Int} {l : List Int} (h : OK N W R K l) (m : Int) {b w : Int} (hb : 0 ≤ b ∧ b < N) (hw : 0 ≤ w ∧ w < W) (v : Int) : ground_Ground_SetWord.f l m N W R K b w v = some (true, IntKind.u64.wrap (m + 1), l.set (wp W R b w) v) := by
  rw [SetWord_eq h, wp_eq h.may hb hw]; rfl
theorem Word_at {N W R K : Int} {l : List Int} (h : OK N W R K l) (m : Int) {b w : Int} (hb : 0 ≤ b ∧ b < N) (hw : 0 ≤ w ∧ w < W) : ground_Ground_Word.f l m N W R K b w = some (word W R l b w, IntKind.u64.wrap (m + 1)) := by
  rw [Word_eq h, wp_eq h.may hb hw]; rfl
/-- A chain stands as it stood, if its registers and links do. -/
theorem Chain.same_ {N W R : Int} {l l' : List Int} {r : Nat} {L : List Int} (hr : ∀ i : Nat, r ≤ i → i ≤ r + 2 → rd l' (i : Int) = rd l (i : Int)) (hk : ∀ x ∈ L, V.link W R l' x = V.link W R l x) (hc : Chain N W R l r L) : Chain N W R l' r L :=
  ⟨hc.mem, hc.nd, by rw [hr _ (by omega) (by omega)]; exact hc.first, by rw [hr _ (by omega) (by omega)]; exact hc.last, by rw [hr _ (by omega) (by omega)]; exact hc.count, hc.links.same hk⟩
/-- A block's first j words are wiped. -/
structure Wip (N W R K b j : Int) (l l' : List Int) : Prop where
  ok : OK N W R K l'
  regs : ∀ i : Nat, i < 24 → rd l' (i : Int) = rd l (i : Int)
  words : ∀ c w : Int, 0 ≤ c ∧ c < N → 0 ≤ w ∧ w < W → word W R l' c w = if c = b ∧ w < j then 0 else word W R l c w
theorem Wip.none {N W R K b : Int} {l : List Int} (h : OK N W R K l) : Wip N W R K b 0 l l := ⟨h, fun _ _ => rfl, fun c w _ hw => by rw [if_neg (by omega)]⟩
theorem Wip.step {N W R K b j : Int} {l l' : List Int} (hb : 0 ≤ b ∧ b < N) (hj : 0 ≤ j ∧ j < W) (h : Wip N W R K b j l l') : Wip N W R K b (j + 1) l (l'.set (wp W R b j) 0) := by
  refine ⟨h.ok.set _ 0 (by decide) (by decide), fun i hi => by rw [reg_word h.ok.may h.ok.len hb hj hi]; exact h.regs i hi, fun c w hc hw => ?_⟩
  rw [word_set h.ok.may h.ok.len hb hc hj hw, h.words c w hc hw]
  by_cases e : b = c ∧ j = w
  · rw [if_pos e, if_pos (by omega)]
  · rw [if_neg e]
    by_cases f : c = b ∧ w < j
    · rw [if_pos f, if_pos (by omega)]
    · rw [if_neg f, if_neg (by omega)]
theorem Wip.chain {N W R K b j : Int} {l l' : List Int} (h : Wip N W R K b j l l') {r : Nat} (hr : r + 2 < 24) {L : List Int} (hn : b ∉ L) (hc : Chain N W R l r L) : Chain N W R l' r L :=
  hc.same_ (fun i h1 h2 => h.regs i (by omega)) (fun x hx => by
    have := h.words x 5 (hc.mem x hx) (five h.ok.may)
    rw [if_neg (fun q => hn (by rw [← q.1]; exact hx))] at this
    exact this)
theorem wipe_lo {N W R K b : Int} (hb : 0 ≤ b ∧ b < N) (l0 : List Int) : ∀ (d k j : Nat) (n : Int) (l : List Int) (m : Int), Wip N W R K b (j : Int) l0 l → j + d = W.toNat → d < k → n + d < 100000 → 0 ≤ n →
    ∃ n' l' m', ground_Ground_Wipe.lo0 k N W R K b (N, W, R, K) n (j : Int) l m = some (n', l', m') ∧ Wip N W R K b W l0 l' ∧ Acc d m m' := by
  intro d
  induction d with
  | zero =>
    intro k j n l m h hj hk hn hn0
    have hW := h.ok.may.2.2.1
    obtain ⟨k, rfl⟩ : ∃ q, k = q + 1 := ⟨k - 1, by omega⟩
    refine ⟨n, l, m, ?_, ?_, Acc.refl _ _⟩
    · rw [ground_Ground_Wipe.lo0, if_neg (by show ¬ (j : Int) < W; omega)]
    · have : (j : Int) = W := by omega
      rw [this] at h; exact h
  | succ d ih =>
    intro k j n l m h hj hk hn hn0
    have hW := h.ok.may.2.2.1
    have hW2 := h.ok.may.2.2.2.1
    obtain ⟨k, rfl⟩ : ∃ q, k = q + 1 := ⟨k - 1, by omega⟩
    have hs := h.step hb (by omega)
    rw [show (j : Int) + 1 = ((j + 1 : Nat) : Int) by omega] at hs
    obtain ⟨n', l', m', e, hw, ha⟩ := ih k (j + 1) (n + 1) _ (IntKind.u64.wrap (m + 1)) hs (by omega) (by omega) (by omega) (by omega)
    refine ⟨n', l', m', ?_, hw, (show Acc (1 + d) m m' from ((Acc.refl 0 m).step).trans ha).mono (by omega)⟩
    rw [ground_Ground_Wipe.lo0, if_pos (by show (j : Int) < W; omega), SetWord_at h.ok m hb (by omega)]
    simp only [Option.bind_some, if_true]
    rw [wrap64_id (n := n + 1) (by omega) (by omega), next_i j (by omega)]
    exact e
theorem wipe_at {N W R K b : Int} {l : List Int} (h : OK N W R K l) (m : Int) (hb : 0 ≤ b ∧ b < N) (k : Nat) (hk : 300 ≤ k) : ∃ n' m' l', ground_Ground_Wipe.f k l m N W R K b = some (n', m', l') ∧ Wip N W R K b W l l' ∧ Acc W.toNat m m' := by
  have hW := h.may.2.2.2.1
  obtain ⟨n', l', m', e, hw, ha⟩ := wipe_lo hb l W.toNat k 0 0 l m (Wip.none h) (by omega) (by omega) (by omega) (by omega)
  refine ⟨n', m', l', ?_, hw, ha⟩
  unfold ground_Ground_Wipe.f ground_Ground_Conf.f
  simp only [Option.bind_some]
  have e' : ground_Ground_Wipe.lo0 k N W R K b (N, W, R, K) 0 0 l m = some (n', l', m') := e
  rw [e']
  rfl
theorem opens {N W R K : Int} {n : Nat} (hn : N = (n : Int)) (hs : n < 900000) : ∀ (d k b : Nat) (l : List Int) (m : Int), b + d = n → d < k → OK N W R K l → Chain N W R l 0 (iv 0 b) → Chain N W R l 3 [] →
    ∃ l' m', pool_Open.lo0 k N W R K (N, W, R, K) (b : Int) l m = some (l', m') ∧ OK N W R K l' ∧ Chain N W R l' 0 (iv 0 n) ∧ Chain N W R l' 3 [] ∧ Fram N W R 0 l l' := by
  intro d
  induction d with
  | zero =>
    intro k b l m hb hk hO hL hM
    obtain ⟨k, rfl⟩ : ∃ q, k = q + 1 := ⟨k - 1, by omega⟩
    obtain rfl : b = n := by omega
    refine ⟨l, m, ?_, hO, hL, hM, Fram.refl _⟩
    rw [pool_Open.lo0, if_neg (by show ¬ (b : Int) < N; omega)]
  | succ d ih =>
    intro k b l m hb hk hO hL hM
    obtain ⟨k, rfl⟩ : ∃ q, k = q + 1 := ⟨k - 1, by omega⟩
    obtain ⟨m1, l1, e, hO1, hL1, hM1, _, hF⟩ := add_chain hO m (k := 0) (r := 0) (q := 3) (Or.inl ⟨rfl, rfl⟩) (by decide) hL hM (b := (b : Int)) (by omega) (fun h => by have := iv_mem h; omega) (by simp) (by simp) (by rw [iv_len]; omega)
    rw [← iv_snoc (by omega)] at hL1
    obtain ⟨l2, m2, e2, hO2, hL2, hM2, hF2⟩ := ih k (b + 1) l1 m1 (by omega) (by omega) hO1 hL1 hM1
    refine ⟨l2, m2, ?_, hO2, hL2, hM2, ⟨fun i h1 h2 => (hF2.regs i h1 h2).trans (hF.regs i h1 h2), fun c w h1 h2 h3 => (hF2.words c w h1 h2 h3).trans (hF.words c w h1 h2 h3)⟩⟩
    rw [pool_Open.lo0, if_pos (by show (b : Int) < N; omega)]
    refine Eq.trans (bind_is e _) ?_
    rw [next_i b (by omega)]
    exact e2
theorem open_pool {N W R K : Int} {n : Nat} (hn : N = (n : Int)) (hs : n < 900000) {l : List Int} (h : OK N W R K l) (hL : Chain N W R l 0 []) (hM : Chain N W R l 3 []) (m : Int) (k : Nat) (hk : n < k) :
    ∃ m' l', pool_Open.f k l m N W R K = some (true, m', l') ∧ OK N W R K l' ∧ Chain N W R l' 0 (iv 0 n) ∧ Chain N W R l' 3 [] ∧ Fram N W R 0 l l' := by
  obtain ⟨l', m', e, hr⟩ := opens hn hs n k 0 l (IntKind.u64.wrap (m + 1)) (by omega) hk h (by rw [iv_self]; exact hL) hM
  refine ⟨m', l', ?_, hr⟩
  unfold pool_Open.f
  refine Eq.trans (bind_is (len_chain h m (Or.inl ⟨rfl, rfl⟩) hL) _) ?_
  show (if ((([] : List Int).length : Nat) : Int) > 0 then _ else _) = _
  rw [if_neg (by decide)]
  refine Eq.trans (bind_is (show ground_Ground_Conf.f l (IntKind.u64.wrap (m + 1)) N W R K = some (N, W, R, K) from rfl) _) ?_
  exact bind_is e _
/-- The first clean block is taken, and wiped. -/
theorem pool_take {N W R K : Int} {l : List Int} (h : OK N W R K l) (m : Int) {a : Int} {L : List Int} (hL : Chain N W R l 0 (a :: L)) (hM : Chain N W R l 3 []) (hlen : L.length < 1000000) (k : Nat) (hk : 300 ≤ k) :
    ∃ m' l', pool_Take.f k l m N W R K = some (a, true, m', l') ∧ OK N W R K l' ∧ Chain N W R l' 0 L ∧ Chain N W R l' 3 [] ∧ (∀ w, 0 ≤ w ∧ w < W → word W R l' a w = 0) ∧
      (∀ c w, 0 ≤ c ∧ c < N → 0 ≤ w ∧ w < W → c ≠ a → w ≠ 5 → word W R l' c w = word W R l c w) ∧ (∀ i : Nat, i < 24 → 2 < i → rd l' (i : Int) = rd l (i : Int)) ∧ Acc (16 + W.toNat) m m' := by
  have ha := hL.mem a (by simp)
  have hn := (List.nodup_cons.1 hL.nd).1
  obtain ⟨m1, l1, e1, h1, hL1, hM1, hA1, hF1, hk1⟩ := take_chain h m (k := 0) (r := 0) (q := 3) (Or.inl ⟨rfl, rfl⟩) (by decide) hL hM (by simp) hlen
  obtain ⟨n2, m2, l2, e2, hw, hA2⟩ := wipe_at h1 m1 ha k hk
  refine ⟨m2, l2, ?_, hw.ok, hw.chain (by decide) hn hL1, hw.chain (by decide) (by simp) hM1, fun w hr => ?_, fun c w hc hr hca h5 => ?_, fun i hi h2 => ?_, hA1.trans hA2⟩
  · unfold pool_Take.f
    refine Eq.trans (bind_is e1 _) ?_
    show (if true = true then _ else _) = _
    rw [if_pos rfl]
    exact bind_is e2 _
  · rw [hw.words a w ha hr, if_pos ⟨rfl, hr.2⟩]
  · rw [hw.words c w hc hr, if_neg (fun q => hca q.1)]
    exact hF1.words c w hc hr h5
  · rw [hw.regs i hi]
    exact hF1.regs i hi (by omega)
theorem pool_take_none {N W R K : Int} {l : List Int} (h : OK N W R K l) (m : Int) (hL : Chain N W R l 0 []) (k : Nat) : ∃ m', pool_Take.f k l m N W R K = some (0, false, m', l) := by
  obtain ⟨m1, e1⟩ := take_none h m (k := 0) (Or.inl ⟨rfl, rfl⟩) hL
  refine ⟨m1, ?_⟩
  unfold pool_Take.f
  refine Eq.trans (bind_is e1 _) ?_
  show (if false = true then _ else _) = _
  rw [if_neg (by decide)]
def isHd (x : Int) : Prop := 0 ≤ x ∧ x < 32 ∧ x % 4 = 1
theorem un_head {x r : Int} (hh : isHd x) (hr : r = 0 ∨ r = 1) : tag_Unpack.f (x + 64 * r) = some (x % 4, x / 4 % 2, x / 8 % 2, x / 16 % 2, 0, r, 0) := by
  have hx := hh
  unfold isHd at hx
  have h0 : 0 ≤ x + 64 * r ∧ x + 64 * r < 128 := by omega
  obtain ⟨w, hw⟩ := Int.eq_ofNat_of_zero_le h0.1
  rw [hw, unpack_eq w (by omega)]
  have hw' : (w : Int) = x + 64 * r := hw.symm
  have a1 : ((w % 4 : Nat) : Int) = x % 4 := by omega
  have a2 : ((w / 4 % 2 : Nat) : Int) = x / 4 % 2 := by omega
  have a3 : ((w / 8 % 2 : Nat) : Int) = x / 8 % 2 := by omega
  have a4 : ((w / 16 % 2 : Nat) : Int) = x / 16 % 2 := by omega
  have a5 : ((w / 32 % 2 : Nat) : Int) = 0 := by omega
  have a6 : ((w / 64 % 2 : Nat) : Int) = r := by omega
  have a7 : ((w / 256 : Nat) : Int) = 0 := by omega
  have a7' : ((w / 256 % 16777216 : Nat) : Int) = 0 := by omega
  first | rw [a1, a2, a3, a4, a5, a6, a7] | rw [a1, a2, a3, a4, a5, a6, a7']
theorem pkG (k : Nat) (hk : 60 ≤ k) {C N S r : Int} (hC : C = 0 ∨ C = 1) (hN : N = 0 ∨ N = 1) (hS : S = 0 ∨ S = 1) (hr : r = 0 ∨ r = 1) : tag_Pack.f k 1 C N S 0 r 0 = some (1 + 4 * C + 8 * N + 16 * S + 64 * r, 0) := by
  obtain ⟨k, rfl⟩ : ∃ q, k = q + 60 := ⟨k - 60, by omega⟩
  rcases hC with rfl | rfl <;> rcases hN with rfl | rfl <;> rcases hS with rfl | rfl <;> rcases hr with rfl | rfl <;> kernel_rfl
theorem pk_head (k : Nat) (hk : 60 ≤ k) {x r : Int} (hh : isHd x) (hr : r = 0 ∨ r = 1) : tag_Pack.f k (x % 4) (x / 4 % 2) (x / 8 % 2) (x / 16 % 2) 0 r 0 = some (x + 64 * r, 0) := by
  have hx := hh
  unfold isHd at hx
  rw [hx.2.2, pkG k hk (by omega) (by omega) (by omega) hr]
  congr 2
  omega
theorem conf_eq (l : List Int) (m N W R K : Int) : ground_Ground_Conf.f l m N W R K = some (N, W, R, K) := rfl
def hd : List Int → Int → Int
  | [], e => e
  | a :: _, _ => a + 1
def lst : Int → List Int → Int
  | p, [] => p
  | _, a :: t => lst (a + 1) t
/-- The blocks hang together forward and backward: p is the name ahead of the first one, e behind the last one. -/
def RLe (l : List Int) : Int → List Int → Int → Prop
  | _, [], _ => True
  | p, a :: t, e => word 16 1 l a 6 = p ∧ word 16 1 l a 7 = hd t e ∧ RLe l (a + 1) t e
theorem hd_app : ∀ (P Q : List Int) (e : Int), hd (P ++ Q) e = hd P (hd Q e)
  | [], _, _ => rfl
  | _ :: _, _, _ => rfl
theorem lst_app : ∀ (p : Int) (P Q : List Int), lst p (P ++ Q) = lst (lst p P) Q
  | _, [], _ => rfl
  | _, a :: t, Q => lst_app (a + 1) t Q
theorem RLe.app {l : List Int} : ∀ (P : List Int) (p : Int) (Q : List Int) (e : Int), RLe l p (P ++ Q) e ↔ RLe l p P (hd Q e) ∧ RLe l (lst p P) Q e
  | [], p, Q, e => by simp [RLe, lst]
  | a :: t, p, Q, e => by
    have := RLe.app (l := l) t (a + 1) Q e
    simp only [List.cons_append, RLe, lst, this, hd_app, and_assoc]
theorem RLe.same {l l' : List Int} : ∀ {L : List Int} {p e : Int}, (∀ x ∈ L, word 16 1 l' x 6 = word 16 1 l x 6 ∧ word 16 1 l' x 7 = word 16 1 l x 7) → RLe l p L e → RLe l' p L e
  | [], _, _, _, _ => trivial
  | a :: t, p, e, h, hL => ⟨(h a (by simp)).1.trans hL.1, (h a (by simp)).2.trans hL.2.1, RLe.same (fun x hx => h x (by simp [hx])) hL.2.2⟩
theorem lst_mem : ∀ {L : List Int} (p : Int), L ≠ [] → ∃ y ∈ L, lst p L = y + 1
  | [], _, h => absurd rfl h
  | [a], _, _ => ⟨a, by simp, rfl⟩
  | a :: b :: t, p, _ => by
    obtain ⟨y, hy, e⟩ := lst_mem (L := b :: t) (a + 1) (by simp)
    exact ⟨y, by simp at hy ⊢; right; exact hy, e⟩
theorem RLe.next {l l' : List Int} {e e' : Int} : ∀ {L : List Int} {p : Int}, L.Nodup → (∀ x ∈ L, word 16 1 l' x 6 = word 16 1 l x 6) → (∀ x ∈ L, x + 1 ≠ lst p L → word 16 1 l' x 7 = word 16 1 l x 7) → (∀ x ∈ L, x + 1 = lst p L → word 16 1 l' x 7 = e') → RLe l p L e → RLe l' p L e'
  | [], _, _, _, _, _, _ => trivial
  | [a], p, _, h6, _, h7', hL => ⟨(h6 a (by simp)).trans hL.1, h7' a (by simp) rfl, trivial⟩
  | a :: b :: t, p, hn, h6, h7, h7', hL => by
    have hn' := List.nodup_cons.1 hn
    have hne : a + 1 ≠ lst p (a :: b :: t) := by
      obtain ⟨y, hy, e⟩ := lst_mem (L := b :: t) (a + 1) (by simp)
      intro q
      have q' : a + 1 = lst (a + 1) (b :: t) := q
      have : a = y := by omega
      exact hn'.1 (this ▸ hy)
    exact ⟨(h6 a (by simp)).trans hL.1, (h7 a (by simp) hne).trans hL.2.1, RLe.next (L := b :: t) (p := a + 1) hn'.2 (fun x hx => h6 x (List.mem_cons_of_mem _ hx)) (fun x hx hq => h7 x (List.mem_cons_of_mem _ hx) hq) (fun x hx hq => h7' x (List.mem_cons_of_mem _ hx) hq) hL.2.2⟩
/-- A ring of heads, of the kinds ks. -/
structure Ring (n : Nat) (ks : Int → Int) (l L : List Int) : Prop where
  ok : OK (n : Int) 16 1 1 l
  mem : ∀ x ∈ L, 0 ≤ x ∧ x < (n : Int)
  nd : L.Nodup
  tags : ∀ b : Int, 0 ≤ b ∧ b < (n : Int) → word 16 1 l b 0 = ks b + 64 * (if b ∈ L then 1 else 0)
  heads : ∀ b : Int, 0 ≤ b ∧ b < (n : Int) → isHd (ks b)
  first : rd l ((7 : Nat) : Int) = hd L 0
  last : rd l ((8 : Nat) : Int) = lst 0 L
  count : rd l ((9 : Nat) : Int) = (L.length : Int)
  links : RLe l 0 L 0
theorem zz : (0 : Int) ≤ 0 ∧ (0 : Int) < 16 := by decide
theorem z6 : (0 : Int) ≤ 6 ∧ (6 : Int) < 16 := by decide
theorem z7 : (0 : Int) ≤ 7 ∧ (7 : Int) < 16 := by decide
theorem lst_rng {n : Nat} {L : List Int} (h : ∀ x ∈ L, 0 ≤ x ∧ x < (n : Int)) : 0 ≤ lst 0 L ∧ lst 0 L ≤ (n : Int) ∧ (lst 0 L = 0 → L = []) := by
  by_cases e : L = []
  · subst e; exact ⟨Int.le_refl _, by show (0 : Int) ≤ _; omega, fun _ => rfl⟩
  · obtain ⟨y, hy, q⟩ := lst_mem 0 e
    have := h y hy
    omega
theorem hd_rng {n : Nat} {L : List Int} (h : ∀ x ∈ L, 0 ≤ x ∧ x < (n : Int)) : 0 ≤ hd L 0 ∧ hd L 0 ≤ (n : Int) ∧ (hd L 0 = 0 → L = []) := by
  cases L with
  | nil => exact ⟨Int.le_refl _, by show (0 : Int) ≤ _; omega, fun _ => rfl⟩
  | cons a t =>
    have := h a (by simp)
    show 0 ≤ a + 1 ∧ a + 1 ≤ (n : Int) ∧ (a + 1 = 0 → _)
    exact ⟨by omega, by omega, fun q => by omega⟩
theorem link_eq {n : Nat} (hn : n < 1000) {l : List Int} (h : OK (n : Int) 16 1 1 l) (m : Int) {x w v : Int} {r : Nat} (hx : 0 ≤ x ∧ x ≤ (n : Int)) (hw : 0 ≤ w ∧ w < 16) (hr : r < 24) (hv : 0 ≤ v ∧ v ≤ (n : Int)) :
    ∃ l', ring_link.f l m (n : Int) 16 1 1 x w (r : Int) v = some (IntKind.u64.wrap (m + 1), l') ∧ OK (n : Int) 16 1 1 l' ∧ (∀ c u, 0 ≤ c ∧ c < (n : Int) → 0 ≤ u ∧ u < 16 → word 16 1 l' c u = if c + 1 = x ∧ u = w then v else word 16 1 l c u) ∧
      (∀ i : Nat, i < 24 → rd l' (i : Int) = if x = 0 ∧ i = r then v else rd l (i : Int)) := by
  by_cases h0 : x = 0
  · refine ⟨l.set r v, ?_, h.set r v (by omega) (by omega), fun c u hc hu => ?_, fun i hi => ?_⟩
    · unfold ring_link.f
      rw [if_pos h0]
      exact bind_is (SetReg_at h m hr v (by omega)) _
    · rw [word_reg h.may h.len hc hu hr, if_neg (by omega)]
    · rw [reg_reg h.may h.len hr]
      by_cases e : r = i
      · rw [if_pos e, if_pos ⟨h0, e.symm⟩]
      · rw [if_neg e, if_neg (fun q => e q.2.symm)]
  · have hb : 0 ≤ x - 1 ∧ x - 1 < (n : Int) := by omega
    refine ⟨l.set (wp 16 1 (x - 1) w) v, ?_, h.set _ v (by omega) (by omega), fun c u hc hu => ?_, fun i hi => ?_⟩
    · unfold ring_link.f
      rw [if_neg h0, wrap64_id (n := x - 1) (by omega) (by omega), show v % 4294967296 = v by omega]
      exact bind_is (SetWord_at h m hb hw v) _
    · rw [word_set h.may h.len hb hc hw hu]
      by_cases e : x - 1 = c ∧ w = u
      · rw [if_pos e, if_pos (by omega)]
      · rw [if_neg e, if_neg (by omega)]
    · rw [reg_word h.may h.len hb hw hi, if_neg (fun q => h0 q.1)]
theorem marked_head {n : Nat} {ks : Int → Int} {l L : List Int} (h : Ring n ks l L) (m : Int) {b : Int} (hb : 0 ≤ b ∧ b < (n : Int)) (q : Int) : ring_marked.f l m (n : Int) 16 1 1 b q = some (ks b % 4, ks b / 4 % 2, ks b / 8 % 2, ks b / 16 % 2, 0, (if b ∈ L then 1 else 0), 0, ((if b ∈ L then (1 : Int) else 0) == q), IntKind.u64.wrap (m + 1)) := by
  have hh := h.heads b hb
  have hr : (if b ∈ L then (1 : Int) else 0) = 0 ∨ (if b ∈ L then (1 : Int) else 0) = 1 := by split <;> simp
  unfold ring_marked.f
  rw [if_neg (by omega)]
  refine Eq.trans (bind_is (conf_eq l m _ _ _ _) _) ?_
  rw [if_neg (by show ¬ b ≥ (n : Int); omega)]
  refine Eq.trans (bind_is (Word_at h.ok m hb zz) _) ?_
  rw [h.tags b hb]
  refine Eq.trans (bind_is (un_head hh hr) _) ?_
  dsimp only
  rw [if_pos hh.2.2]
theorem mark_at {n : Nat} {l : List Int} (h : OK (n : Int) 16 1 1 l) (m : Int) (k : Nat) (hk : 60 ≤ k) {b x : Int} (hb : 0 ≤ b ∧ b < (n : Int)) (hh : isHd x) (o t : Int) (ht : t = 0 ∨ t = 1) : ring_mark.f k l m (n : Int) 16 1 1 b (x % 4) (x / 4 % 2) (x / 8 % 2) (x / 16 % 2) 0 o 0 t = some (IntKind.u64.wrap (m + 1), l.set (wp 16 1 b 0) (x + 64 * t)) := by
  unfold ring_mark.f
  refine Eq.trans (bind_is (pk_head k hk hh ht) _) ?_
  dsimp only
  rw [if_pos rfl]
  exact bind_is (SetWord_at h m hb zz _) _
theorem ring_few {n : Nat} {ks : Int → Int} {l L : List Int} (h : Ring n ks l L) : L.length ≤ n := by
  have := h.nd.length_le_of_subset (l₂ := iv 0 n) (fun x hx => by
    have := h.mem x hx
    unfold iv
    exact List.mem_map.2 ⟨x.toNat, List.mem_range'_1.2 (by omega), by omega⟩)
  rw [iv_len] at this
  omega
theorem add_ring {n : Nat} (hs : n < 1000) {ks : Int → Int} {l L : List Int} (h : Ring n ks l L) (m : Int) (k : Nat) (hk : 60 ≤ k) {b : Int} (hb : 0 ≤ b ∧ b < (n : Int)) (hn : b ∉ L) :
    ∃ m' l', ring_Add.f k l m (n : Int) 16 1 1 b = some (true, m', l') ∧ Ring n ks l' (L ++ [b]) ∧ ∀ i : Nat, 9 < i → i < 24 → rd l' (i : Int) = rd l (i : Int) := by
  have hh := h.heads b hb
  have hv : 0 ≤ ks b ∧ ks b < 32 := ⟨hh.1, hh.2.1⟩
  have he := lst_rng h.mem
  have hfew := ring_few h
  have hO1 := h.ok.set (wp 16 1 b 0) (ks b + 64 * 1) (by omega) (by omega)
  have hO2 := hO1.set (wp 16 1 b 6) (lst 0 L) (by omega) (by omega)
  have hO3 := hO2.set (wp 16 1 b 7) 0 (by decide) (by decide)
  obtain ⟨l4, e4, hO4, hw4, hr4⟩ := link_eq hs hO3 (IntKind.u64.wrap ((IntKind.u64.wrap ((IntKind.u64.wrap ((IntKind.u64.wrap ((IntKind.u64.wrap (m + 1)) + 1)) + 1)) + 1)) + 1)) (x := lst 0 L) (w := 7) (v := b + 1) (r := 7) ⟨he.1, he.2.1⟩ z7 (by decide) (by omega)
  have hO5 := hO4.set 8 (b + 1) (by omega) (by omega)
  have hO6 := hO5.set 9 ((L.length : Int) + 1) (by omega) (by omega)
  have hr3 : ∀ i : Nat, i < 24 → rd (((l.set (wp 16 1 b 0) (ks b + 64 * 1)).set (wp 16 1 b 6) (lst 0 L)).set (wp 16 1 b 7) 0) (i : Int) = rd l (i : Int) := fun i hi => by
    rw [reg_word h.ok.may hO2.len hb z7 hi, reg_word h.ok.may hO1.len hb z6 hi, reg_word h.ok.may h.ok.len hb zz hi]
  have hw : ∀ c u : Int, 0 ≤ c ∧ c < (n : Int) → 0 ≤ u ∧ u < 16 → word 16 1 ((l4.set 8 (b + 1)).set 9 ((L.length : Int) + 1)) c u = if c + 1 = lst 0 L ∧ u = 7 then b + 1 else if b = c ∧ 7 = u then 0 else if b = c ∧ 6 = u then lst 0 L else if b = c ∧ 0 = u then ks b + 64 * 1 else word 16 1 l c u := fun c u hc hu => by
    rw [word_reg h.ok.may hO5.len hc hu (by decide), word_reg h.ok.may hO4.len hc hu (by decide), hw4 c u hc hu, word_set h.ok.may hO2.len hb hc z7 hu, word_set h.ok.may hO1.len hb hc z6 hu, word_set h.ok.may h.ok.len hb hc zz hu]
  have hbl : b + 1 ≠ lst 0 L := by
    intro q
    by_cases e : L = []
    · subst e; have : b + 1 = 0 := q; omega
    · obtain ⟨y, hy, e2⟩ := lst_mem 0 e
      have : b = y := by omega
      exact hn (this ▸ hy)
  have hxb : ∀ x ∈ L, ¬ b = x := fun x hx e => hn (e ▸ hx)
  refine ⟨(IntKind.u64.wrap ((IntKind.u64.wrap ((IntKind.u64.wrap ((IntKind.u64.wrap ((IntKind.u64.wrap ((IntKind.u64.wrap ((IntKind.u64.wrap ((IntKind.u64.wrap ((IntKind.u64.wrap (m + 1)) + 1)) + 1)) + 1)) + 1)) + 1)) + 1)) + 1)) + 1)), _, ?_, ⟨hO6, ?_, ?_, ?_, h.heads, ?_, ?_, ?_, ?_⟩, fun i h1 h2 => by rw [reg_reg h.ok.may hO5.len (by decide), if_neg (by omega), reg_reg h.ok.may hO4.len (by decide), if_neg (by omega), hr4 i h2, if_neg (by omega), hr3 i h2]⟩
  · unfold ring_Add.f
    refine Eq.trans (bind_is (marked_head h m hb 0) _) ?_
    dsimp only
    rw [if_neg hn]
    rw [if_pos (show ((0 : Int) == 0) = true from rfl)]
    refine Eq.trans (bind_is (mark_at h.ok _ k hk hb hh 0 1 (Or.inr rfl)) _) ?_
    dsimp only
    refine Eq.trans (bind_is (Reg_at hO1 _ (i := 8) (by decide)) _) ?_
    dsimp only
    rw [reg_word h.ok.may h.ok.len hb zz (by decide), h.last, show lst 0 L % 4294967296 = lst 0 L by omega]
    refine Eq.trans (bind_is (SetWord_at hO1 _ hb z6 (lst 0 L)) _) ?_
    dsimp only
    refine Eq.trans (bind_is (SetWord_at hO2 _ hb z7 0) _) ?_
    dsimp only
    rw [wrap64_id (n := b + 1) (by omega) (by omega)]
    refine Eq.trans (bind_is e4 _) ?_
    dsimp only
    refine Eq.trans (bind_is (SetReg_at hO4 _ (i := 8) (by decide) (b + 1) (by omega)) _) ?_
    dsimp only
    refine Eq.trans (bind_is (Reg_at hO5 _ (i := 9) (by decide)) _) ?_
    dsimp only
    rw [reg_reg h.ok.may hO4.len (by decide), if_neg (by decide), hr4 9 (by decide), if_neg (by omega), hr3 9 (by decide), h.count, wrap64_id (n := (L.length : Int) + 1) (by omega) (by omega)]
    exact bind_is (SetReg_at hO5 _ (i := 9) (by decide) _ (by omega)) _
  · intro x hx
    rcases List.mem_append.1 hx with hx | hx
    · exact h.mem x hx
    · rw [List.mem_singleton.1 hx]; exact hb
  · exact List.nodup_append.2 ⟨h.nd, by simp, fun x hx y hy => by rw [List.mem_singleton.1 hy]; exact fun e => hn (e ▸ hx)⟩
  · intro c hc
    rw [hw c 0 hc zz, if_neg (by omega), if_neg (by omega), if_neg (by omega)]
    by_cases e : b = c
    · rw [if_pos ⟨e, rfl⟩, if_pos (by simp [e]), e]
    · rw [if_neg (fun q => e q.1), h.tags c hc]
      by_cases f : c ∈ L
      · rw [if_pos f, if_pos (by simp [f])]
      · rw [if_neg f, if_neg (by
          intro q
          rcases List.mem_append.1 q with q | q
          · exact f q
          · exact e (List.mem_singleton.1 q).symm)]
  · rw [reg_reg h.ok.may hO5.len (by decide), if_neg (by decide), reg_reg h.ok.may hO4.len (by decide), if_neg (by decide), hr4 7 (by decide), hr3 7 (by decide), h.first, hd_app]
    by_cases e : lst 0 L = 0
    · rw [if_pos ⟨e, rfl⟩, he.2.2 e]; rfl
    · rw [if_neg (fun q => e q.1)]
      cases L with
      | nil => exact absurd rfl e
      | cons a t => rfl
  · rw [reg_reg h.ok.may hO5.len (by decide), if_neg (by decide), reg_reg h.ok.may hO4.len (by decide), if_pos rfl, lst_app]; rfl
  · rw [reg_reg h.ok.may hO5.len (by decide), if_pos rfl]; simp
  · rw [RLe.app]
    refine ⟨RLe.next h.nd (fun x hx => ?_) (fun x hx hq => ?_) (fun x hx hq => ?_) h.links, ?_, ?_, trivial⟩
    · rw [hw x 6 (h.mem x hx) z6, if_neg (by omega), if_neg (by omega), if_neg (fun q => hxb x hx q.1), if_neg (fun q => hxb x hx q.1)]
    · rw [hw x 7 (h.mem x hx) z7, if_neg (fun q => hq q.1), if_neg (fun q => hxb x hx q.1), if_neg (by omega), if_neg (by omega)]
    · rw [hw x 7 (h.mem x hx) z7, if_pos ⟨hq, rfl⟩]; rfl
    · rw [hw b 6 hb z6, if_neg (by omega), if_neg (by omega), if_pos ⟨rfl, rfl⟩]
    · rw [hw b 7 hb z7, if_neg (fun q => hbl q.1), if_pos ⟨rfl, rfl⟩]; rfl
theorem ring_len {n : Nat} {ks : Int → Int} {l L : List Int} (h : Ring n ks l L) (m : Int) : ring_Len.f l m (n : Int) 16 1 1 = some ((L.length : Int), IntKind.u64.wrap (m + 1)) := by
  unfold ring_Len.f
  refine Eq.trans (bind_is (Reg_at h.ok m (i := 9) (by decide)) _) ?_
  rw [h.count]
theorem has_in {n : Nat} {ks : Int → Int} {l L : List Int} (h : Ring n ks l L) (m : Int) {b : Int} (hb : b ∈ L) : ∃ m', ring_Has.f l m (n : Int) 16 1 1 b = some (true, m') := by
  refine ⟨IntKind.u64.wrap (m + 1), ?_⟩
  unfold ring_Has.f
  refine Eq.trans (bind_is (marked_head h m (h.mem b hb) 1) _) ?_
  rw [if_pos hb]
  rfl
theorem openref_lo (N : Int) (n : Nat) (hN : N = (n : Int)) (hn : n < 900000) : ∀ (d k j : Nat), j + d = n → d < k → quitrentref10_Open.lo0 k N (j : Int) (iv 0 j) = some (iv 0 n) := by
  intro d
  induction d with
  | zero =>
    intro k j hj hk
    obtain ⟨k, rfl⟩ : ∃ q, k = q + 1 := ⟨k - 1, by omega⟩
    obtain rfl : j = n := by omega
    rw [quitrentref10_Open.lo0, if_neg (by omega)]
  | succ d ih =>
    intro k j hj hk
    obtain ⟨k, rfl⟩ : ∃ q, k = q + 1 := ⟨k - 1, by omega⟩
    rw [quitrentref10_Open.lo0, if_pos (by omega), if_pos (by rw [iv_len]; omega)]
    refine Eq.trans (Option.bind_some _ _) ?_
    rw [← iv_snoc (by omega), next_i j (by omega)]
    exact ih k (j + 1) (by omega) (by omega)
theorem bind_r {α β γ : Type} {x : Option (α ⊕ β)} {a : β} (h : x = some (.inr a)) (f : α → Option γ) (g : β → Option γ) : (x.bind fun t => Sum.elim f g t) = g a := by rw [h]; rfl
theorem emod_le_self_ {x n : Int} (hx : 0 ≤ x) (hn : 0 < n) : x % n ≤ x := by
  have h1 := Int.mul_ediv_add_emod x n
  have h2 := Int.mul_nonneg (Int.le_of_lt hn) (Int.ediv_nonneg hx (Int.le_of_lt hn))
  omega
theorem modn {n : Nat} (hn : 1 ≤ n) {x : Int} (hx : 0 ≤ x ∧ x ≤ 255) : ∃ b : Nat, b < n ∧ wrap64 (Int.tmod x (n : Int)) = (b : Int) := by
  have h1 := Int.emod_nonneg x (show (n : Int) ≠ 0 by omega)
  have h2 := Int.emod_lt_of_pos x (show (0 : Int) < n by omega)
  have h3 : x % (n : Int) ≤ x := emod_le_self_ hx.1 (by omega)
  refine ⟨(x % (n : Int)).toNat, by omega, ?_⟩
  rw [Int.tmod_eq_emod_of_nonneg hx.1, wrap64_id (by omega) (by omega)]
  omega
def up (m : Int) : Int := IntKind.u64.wrap (m + 1)
theorem z1 : (0 : Int) ≤ 1 ∧ (1 : Int) < 16 := by decide
theorem z2 : (0 : Int) ≤ 2 ∧ (2 : Int) < 16 := by decide
theorem z4 : (0 : Int) ≤ 4 ∧ (4 : Int) < 16 := by decide
theorem wb {n : Nat} (hn : n < 1000) {b : Int} (hb : 0 ≤ b ∧ b < (n : Int)) : wrap64 (b + 1 - 1) = b := by rw [wrap64_id (by omega) (by omega)]; omega
theorem of_word {n : Nat} (hn : n < 1000) {l : List Int} (h : OK (n : Int) 16 1 1 l) (m : Int) {b x r : Int} (hb : 0 ≤ b ∧ b < (n : Int)) (hx : word 16 1 l b 0 = x + 64 * r) (hh : isHd x) (hr : r = 0 ∨ r = 1) : tint_of.f l m (n : Int) 16 1 1 (b + 1) = some (x % 4, x / 4 % 2, x / 8 % 2, x / 16 % 2, 0, r, 0, true, up m) := by
  unfold tint_of.f
  rw [if_neg (by omega)]
  refine Eq.trans (bind_is (conf_eq l m _ _ _ _) _) ?_
  rw [if_neg (by show ¬ b + 1 > (n : Int); omega), wb hn hb]
  refine Eq.trans (bind_is (Word_at h m hb zz) _) ?_
  rw [hx]
  refine Eq.trans (bind_is (un_head hh hr) _) ?_
  dsimp only
  rw [if_pos hh.2.2]
  rfl
theorem par_of {n : Nat} {l : List Int} (h : OK (n : Int) 16 1 1 l) (m : Int) {p : Int} (hp : rd l ((10 : Nat) : Int) = p) : tint_Parity.f l m (n : Int) 16 1 1 = some (p, up m) := by
  unfold tint_Parity.f
  refine Eq.trans (bind_is (Reg_at h m (i := 10) (by decide)) _) ?_
  rw [hp]; rfl
theorem pha_of {n : Nat} {l : List Int} (h : OK (n : Int) 16 1 1 l) (m : Int) {p : Int} (hp : rd l ((11 : Nat) : Int) = p) : tint_Phase.f l m (n : Int) 16 1 1 = some (p, up m) := by
  unfold tint_Phase.f
  refine Eq.trans (bind_is (Reg_at h m (i := 11) (by decide)) _) ?_
  rw [hp]; rfl
theorem at_of {n : Nat} {l : List Int} (h : OK (n : Int) 16 1 1 l) (m : Int) : ∃ x y, tint_At.f l m (n : Int) 16 1 1 = some (x, y, up (up m)) := by
  refine ⟨rd l ((12 : Nat) : Int), rd l ((13 : Nat) : Int), ?_⟩
  unfold tint_At.f
  refine Eq.trans (bind_is (Reg_at h m (i := 12) (by decide)) _) ?_
  exact bind_is (Reg_at h _ (i := 13) (by decide)) _
theorem turn {n : Nat} {l : List Int} (h : OK (n : Int) 16 1 1 l) (m : Int) {p : Int} (hp : rd l ((10 : Nat) : Int) = p) (h01 : p = 0 ∨ p = 1) : tint_Turn.f l m (n : Int) 16 1 1 = some (up (up m), l.set 10 (1 - p)) := by
  unfold tint_Turn.f
  refine Eq.trans (bind_is (Reg_at h m (i := 10) (by decide)) _) ?_
  rw [hp, wrap64_id (n := 1 - p) (by omega) (by omega)]
  exact bind_is (SetReg_at h _ (i := 10) (by decide) (1 - p) (by omega)) _
/-- The tag of an object that is of the parity, with its count and its shade. -/
def tv (p : Int) : Int := 1 + 28 * p
theorem tv_head {p : Int} (h : p = 0 ∨ p = 1) : isHd (tv p) := by unfold isHd tv; omega
theorem tv_bits {p : Int} (h : p = 0 ∨ p = 1) : tv p % 4 = 1 ∧ tv p / 4 % 2 = p ∧ tv p / 8 % 2 = p ∧ tv p / 16 % 2 = p := by unfold tv; omega
/-- The first i blocks are objects, all of the parity p; the others are clean. -/
structure IA (n : Nat) (p : Int) (i : Nat) (l : List Int) : Prop where
  ok : OK (n : Int) 16 1 1 l
  pool : Chain (n : Int) 16 1 l 0 (iv i n)
  none3 : Chain (n : Int) 16 1 l 3 []
  tags : ∀ b : Int, 0 ≤ b ∧ b < (i : Int) → word 16 1 l b 0 = tv p
  regs : ∀ j : Nat, j < 24 → 5 < j → rd l (j : Int) = if j = 10 then p else if j = 11 then 2 else 0
theorem make_at {n : Nat} (hs : n < 1000) {p : Int} {i : Nat} (hi : i < n) {l : List Int} (h : IA n p i l) (m : Int) (k : Nat) (hk : 300 ≤ k)
    (hsh : shape_Blocks.f k 16 1 0 = some (1, 0)) : ∃ m' l', obj_Make.f k l m (n : Int) 16 1 1 1 0 = some ((i : Int) + 1, 0, m', l') ∧ OK (n : Int) 16 1 1 l' ∧ Chain (n : Int) 16 1 l' 0 (iv (i + 1) n) ∧ Chain (n : Int) 16 1 l' 3 [] ∧ word 16 1 l' (i : Int) 0 = 1 ∧
      (∀ b : Int, 0 ≤ b ∧ b < (i : Int) → word 16 1 l' b 0 = tv p) ∧ (∀ j : Nat, j < 24 → 5 < j → rd l' (j : Int) = if j = 10 then p else if j = 11 then 2 else 0) := by
  have hb : 0 ≤ (i : Int) ∧ (i : Int) < (n : Int) := by omega
  have hL := h.pool
  have hmay := h.ok.may
  have hp := pkG k (by omega) (C := 0) (N := 0) (S := 0) (r := 0) (Or.inl rfl) (Or.inl rfl) (Or.inl rfl) (Or.inl rfl)
  rw [iv_cons (by omega)] at hL
  obtain ⟨m1, l1, e1, hO1, hL1, hM1, hz, hw, hg, _⟩ := pool_take h.ok (IntKind.u64.wrap (m + 1)) hL h.none3 (by rw [iv_len]; omega) k hk
  have hO2 := hO1.set (wp 16 1 (i : Int) 0) 1 (by decide) (by decide)
  have hO3 := hO2.set (wp 16 1 (i : Int) 1) 1 (by decide) (by decide)
  have hO4 := hO3.set (wp 16 1 (i : Int) 2) 0 (by decide) (by decide)
  have c1 : ∀ r L, r + 2 < 24 → Chain (n : Int) 16 1 l1 r L → Chain (n : Int) 16 1 (((l1.set (wp 16 1 (i : Int) 0) 1).set (wp 16 1 (i : Int) 1) 1).set (wp 16 1 (i : Int) 2) 0) r L := fun r L hr hc =>
    Chain.word hmay hO3.len hr hb z2 (Or.inl (by decide)) 0 (Chain.word hmay hO2.len hr hb z1 (Or.inl (by decide)) 1 (Chain.word hmay hO1.len hr hb zz (Or.inl (by decide)) 1 hc))
  refine ⟨up (up (up m1)), _, ?_, hO4, c1 0 _ (by decide) hL1, c1 3 _ (by decide) hM1, ?_, fun b hbi => ?_, fun j h1 h2 => ?_⟩
  rotate_left
  · rw [word_set hmay hO3.len hb hb z2 zz, if_neg (by omega), word_set hmay hO2.len hb hb z1 zz, if_neg (by omega), word_set hmay hO1.len hb hb zz zz, if_pos ⟨rfl, rfl⟩]
  · have hbn : 0 ≤ b ∧ b < (n : Int) := by omega
    rw [word_set hmay hO3.len hb hbn z2 zz, if_neg (by omega), word_set hmay hO2.len hb hbn z1 zz, if_neg (by omega), word_set hmay hO1.len hb hbn zz zz, if_neg (by omega), hw b 0 hbn zz (by omega) (by decide)]
    exact h.tags b hbi
  · rw [reg_word hmay hO3.len hb z2 h1, reg_word hmay hO2.len hb z1 h1, reg_word hmay hO1.len hb zz h1, hg j h1 (by omega)]
    exact h.regs j h1 h2
  unfold obj_Make.f
  refine Eq.trans (bind_is (conf_eq l m _ _ _ _) _) ?_
  refine Eq.trans (bind_is hsh _) ?_
  dsimp only
  rw [if_pos rfl]
  have el : pool_Len.f l m (n : Int) 16 1 1 = some (((n - i : Nat) : Int), IntKind.u64.wrap (m + 1)) := by
    unfold pool_Len.f
    rw [len_chain h.ok m (Or.inl ⟨rfl, rfl⟩) h.pool]
    simp only [Option.bind_some, iv_len]
  refine Eq.trans (bind_is el _) ?_
  dsimp only
  rw [if_neg (by omega)]
  refine Eq.trans (bind_is e1 _) ?_
  dsimp only
  rw [if_neg (by decide)]
  have em : ∀ m0, obj_mark.f k l1 m0 (n : Int) 16 1 1 (i : Int) 1 0 0 0 0 0 0 = some (IntKind.u64.wrap (m0 + 1), l1.set (wp 16 1 (i : Int) 0) 1) := fun m0 => by
    unfold obj_mark.f
    refine Eq.trans (bind_is hp _) ?_
    dsimp only
    rw [if_pos rfl]
    exact bind_is (SetWord_at hO1 m0 hb zz 1) _
  refine Eq.trans (bind_is (em m1) _) ?_
  dsimp only
  refine Eq.trans (bind_is (SetWord_at hO2 _ hb z1 1) _) ?_
  refine Eq.trans (bind_is (SetWord_at hO3 _ hb z2 0) _) ?_
  obtain ⟨k, rfl⟩ : ∃ q, k = q + 1 := ⟨k - 1, by omega⟩
  refine Eq.trans (bind_is (show obj_Make.lo1 (k + 1) (n : Int) 16 1 1 (1, 0) _ 0 _ _ = some (_, _) by rw [obj_Make.lo1, if_neg (by rw [show wrap64 (((1 : Int), (0 : Int)).1 - 1) = 0 by unfold wrap64; decide]; decide)]) _) ?_
  rw [wrap64_id (n := (i : Int) + 1) (by omega) (by omega)]
  rfl
theorem dye_at {n : Nat} (hs : n < 1000) {l : List Int} (h : OK (n : Int) 16 1 1 l) (m : Int) (k : Nat) (hk : 60 ≤ k) {b p : Int} (hb : 0 ≤ b ∧ b < (n : Int)) (hw : word 16 1 l b 0 = 1) (hp : rd l ((10 : Nat) : Int) = p) (h01 : p = 0 ∨ p = 1) :
    tint_Dye.f k l m (n : Int) 16 1 1 (b + 1) = some (true, up (up (up (up m))), (l.set (wp 16 1 b 4) 0).set (wp 16 1 b 0) (tv p)) := by
  have ho := of_word hs h m hb (x := 1) (r := 0) (by rw [hw]; rfl) (by unfold isHd; decide) (Or.inl rfl)
  have h4 := h.set (wp 16 1 b 4) 0 (by decide) (by decide)
  have hd : tint_Dye_1.f 1 0 0 0 0 0 0 p l (up (up m)) (n : Int) 16 1 1 (b + 1) = some (p, p, p, up (up (up m)), l.set (wp 16 1 b 4) 0) := by
    unfold tint_Dye_1.f
    rw [wb hs hb]
    exact bind_is (SetWord_at h _ hb z4 0) _
  have hq := pkG k hk (C := p) (N := p) (S := p) (r := 0) h01 h01 h01 (Or.inl rfl)
  rw [show 1 + 4 * p + 8 * p + 16 * p + 64 * 0 = tv p by unfold tv; omega] at hq
  have hc : tint_change_F52.f k l m (n : Int) 16 1 1 (b + 1) (b + 1) = some (true, up (up (up (up m))), (l.set (wp 16 1 b 4) 0).set (wp 16 1 b 0) (tv p)) := ?_
  · unfold tint_Dye.f
    exact bind_is hc _
  unfold tint_change_F52.f
  refine Eq.trans (bind_is ho _) ?_
  dsimp only
  rw [if_pos rfl]
  refine Eq.trans (bind_is (par_of h _ hp) _) ?_
  refine Eq.trans (bind_is hd _) ?_
  refine Eq.trans (bind_is hq _) ?_
  dsimp only
  rw [if_pos rfl, wb hs hb]
  exact bind_is (SetWord_at h4 _ hb zz (tv p)) _
theorem counted_yes {n : Nat} (hs : n < 1000) {l : List Int} (h : OK (n : Int) 16 1 1 l) (m : Int) {b p : Int} (hb : 0 ≤ b ∧ b < (n : Int)) (hw : word 16 1 l b 0 = tv p) (hp : rd l ((10 : Nat) : Int) = p) (h01 : p = 0 ∨ p = 1) :
    tint_Counted.f l m (n : Int) 16 1 1 (b + 1) 0 = some (true, up (up m)) := by
  have ho := of_word hs h m hb (x := tv p) (r := 0) (by rw [hw]; omega) (tv_head h01) (Or.inl rfl)
  unfold tint_Counted.f
  refine Eq.trans (bind_is ho _) ?_
  dsimp only
  rw [if_pos rfl, if_neg (by decide)]
  refine Eq.trans (bind_is (par_of h _ hp) _) ?_
  dsimp only
  rw [if_pos (tv_bits h01).2.2.1]
theorem deepen_at {n : Nat} (hs : n < 1000) {l : List Int} (h : OK (n : Int) 16 1 1 l) (m : Int) (k : Nat) (hk : 60 ≤ k) {b p : Int} (hb : 0 ≤ b ∧ b < (n : Int)) (hw : word 16 1 l b 0 = tv p) (hp : rd l ((10 : Nat) : Int) = p) (h01 : p = 0 ∨ p = 1) :
    ∃ m' v, tint_Deepen.f k l m (n : Int) 16 1 1 (b + 1) = some (true, m', (l.set (wp 16 1 b 4) v).set (wp 16 1 b 0) (tv p)) ∧ 0 ≤ v ∧ v < 4294967296 := by
  have ho := of_word hs h m hb (x := tv p) (r := 0) (by rw [hw]; omega) (tv_head h01) (Or.inl rfl)
  obtain ⟨t1, t2, t3, t4⟩ := tv_bits h01
  rw [t1, t2, t3, t4] at ho
  have hv : 0 ≤ (word 16 1 l b 4 + 1) % 4294967296 ∧ (word 16 1 l b 4 + 1) % 4294967296 < 4294967296 := by omega
  have h4 := h.set (wp 16 1 b 4) ((word 16 1 l b 4 + 1) % 4294967296) hv.1 hv.2
  have hd : tint_Deepen_1.f 1 p p p 0 0 0 p l (up (up m)) (n : Int) 16 1 1 (b + 1) = some (p, up (up (up (up m))), l.set (wp 16 1 b 4) ((word 16 1 l b 4 + 1) % 4294967296)) := by
    unfold tint_Deepen_1.f
    rw [if_pos rfl, wb hs hb]
    refine Eq.trans (bind_is (Word_at h _ hb z4) _) ?_
    exact bind_is (SetWord_at h _ hb z4 _) _
  have hq := pkG k hk (C := p) (N := p) (S := p) (r := 0) h01 h01 h01 (Or.inl rfl)
  rw [show 1 + 4 * p + 8 * p + 16 * p + 64 * 0 = tv p by unfold tv; omega] at hq
  refine ⟨up (up (up (up (up m)))), _, ?_, hv⟩
  have hc : tint_change_F54.f k l m (n : Int) 16 1 1 (b + 1) (b + 1) = some (true, up (up (up (up (up m)))), (l.set (wp 16 1 b 4) ((word 16 1 l b 4 + 1) % 4294967296)).set (wp 16 1 b 0) (tv p)) := ?_
  · unfold tint_Deepen.f
    exact bind_is hc _
  unfold tint_change_F54.f
  refine Eq.trans (bind_is ho _) ?_
  dsimp only
  rw [if_pos rfl]
  refine Eq.trans (bind_is (par_of h _ hp) _) ?_
  refine Eq.trans (bind_is hd _) ?_
  refine Eq.trans (bind_is hq _) ?_
  dsimp only
  rw [if_pos rfl, wb hs hb]
  exact bind_is (SetWord_at h4 _ hb zz (tv p)) _
theorem begin_lo {n : Nat} {l : List Int} (h : OK (n : Int) 16 1 1 l) : ∀ (d k j : Nat) (l' : List Int) (m : Int), j + d = 4 → d < k → OK (n : Int) 16 1 1 l' → (∀ i : Nat, i < 24 → rd l' (i : Int) = if 12 ≤ i ∧ i < 12 + j then 0 else rd l (i : Int)) → (∀ r L, r + 2 < 12 → Chain (n : Int) 16 1 l r L → Chain (n : Int) 16 1 l' r L) →
    ∃ l2 m2, tint_Begin.lo0 k (n : Int) 16 1 1 (j : Int) l' m = some (l2, m2) ∧ OK (n : Int) 16 1 1 l2 ∧ (∀ i : Nat, i < 24 → rd l2 (i : Int) = if 12 ≤ i ∧ i < 16 then 0 else rd l (i : Int)) ∧ (∀ r L, r + 2 < 12 → Chain (n : Int) 16 1 l r L → Chain (n : Int) 16 1 l2 r L) := by
  intro d
  induction d with
  | zero =>
    intro k j l' m hj hk hO hr hc
    obtain ⟨k, rfl⟩ : ∃ q, k = q + 1 := ⟨k - 1, by omega⟩
    obtain rfl : j = 4 := by omega
    exact ⟨l', m, by rw [tint_Begin.lo0, if_neg (by decide)], hO, hr, hc⟩
  | succ d ih =>
    intro k j l' m hj hk hO hr hc
    obtain ⟨k, rfl⟩ : ∃ q, k = q + 1 := ⟨k - 1, by omega⟩
    have hrd : rd [12, 13, 14, 15] (j : Int) = ((12 + j : Nat) : Int) := by
      have : j = 0 ∨ j = 1 ∨ j = 2 ∨ j = 3 := by omega
      rcases this with rfl | rfl | rfl | rfl <;> rfl
    obtain ⟨l2, m2, e, hO2, hr2, hc2⟩ := ih k (j + 1) (l'.set (12 + j) 0) (IntKind.u64.wrap (m + 1)) (by omega) (by omega) (hO.set _ 0 (by decide) (by decide)) (fun i hi => by
      rw [reg_reg h.may hO.len (by omega), hr i hi]
      by_cases e : 12 + j = i
      · rw [if_pos e, if_pos (by omega)]
      · rw [if_neg e]
        by_cases f : 12 ≤ i ∧ i < 12 + j
        · rw [if_pos f, if_pos (by omega)]
        · rw [if_neg f, if_neg (by omega)]) (fun r L hrl hC => Chain.reg h.may hO.len (by omega) (by omega) (Or.inr (by omega)) 0 (hc r L hrl hC))
    refine ⟨l2, m2, ?_, hO2, hr2, hc2⟩
    rw [tint_Begin.lo0, if_pos (by omega), if_pos (by omega), hrd]
    refine Eq.trans (bind_is (SetReg_at hO m (i := 12 + j) (by omega) 0 (by decide)) _) ?_
    rw [next_i j (by omega)]
    exact e
theorem begin_at {n : Nat} {p : Int} {l : List Int} (h : OK (n : Int) 16 1 1 l) (hp : Chain (n : Int) 16 1 l 0 (iv 0 n)) (hq : Chain (n : Int) 16 1 l 3 []) (hr : ∀ j : Nat, j < 24 → 5 < j → rd l (j : Int) = if j = 10 then p else 0) (m : Int) (k : Nat) (hk : 10 ≤ k) :
    ∃ m' l', tint_Begin.f k l m (n : Int) 16 1 1 2 = some (true, m', l') ∧ IA n p 0 l' := by
  have h1 := h.set 11 2 (by decide) (by decide)
  obtain ⟨l2, m2, e, hO2, hr2, hc2⟩ := begin_lo h1 4 k 0 (l.set 11 2) (IntKind.u64.wrap (m + 1)) (by omega) (by omega) h1 (fun i hi => by rw [if_neg (by omega)]) (fun _ _ _ h => h)
  refine ⟨m2, l2, ?_, hO2, ?_, ?_, fun b hb => by omega, fun j h2 h3 => ?_⟩
  · unfold tint_Begin.f
    rw [if_neg (by decide), if_neg (by decide)]
    refine Eq.trans (bind_is (SetReg_at h m (i := 11) (by decide) 2 (by decide)) _) ?_
    exact bind_is e _
  · exact hc2 0 _ (by decide) (Chain.reg h.may h.len (by decide) (by decide) (Or.inr (by decide)) 2 hp)
  · exact hc2 3 _ (by decide) (Chain.reg h.may h.len (by decide) (by decide) (Or.inr (by decide)) 2 hq)
  · rw [hr2 j h2]
    by_cases f : 12 ≤ j ∧ j < 16
    · rw [if_pos f, if_neg (by omega), if_neg (by omega)]
    · rw [if_neg f, reg_reg h.may h.len (by decide)]
      by_cases e : 11 = j
      · rw [if_pos e, if_neg (by omega), if_pos e.symm]
      · rw [if_neg e, hr j h2 h3, if_neg (show ¬ j = 11 by omega)]
/-- All blocks are objects of the parity p. -/
structure IB (n : Nat) (p : Int) (l : List Int) : Prop where
  ok : OK (n : Int) 16 1 1 l
  tags : ∀ b : Int, 0 ≤ b ∧ b < (n : Int) → word 16 1 l b 0 = tv p
  regs : ∀ j : Nat, j < 24 → 5 < j → rd l (j : Int) = if j = 10 then p else if j = 11 then 2 else 0
theorem black_at {n : Nat} (hs : n < 1000) {ks : Int → Int} {l L : List Int} (h : Ring n ks l L) (m : Int) {b q : Int} (hb : 0 ≤ b ∧ b < (n : Int)) (hq : rd l ((10 : Nat) : Int) = q) : tint_Black.f l m (n : Int) 16 1 1 (b + 1) = some ((ks b / 4 % 2 == q), up (up m)) := by
  have ho := of_word hs h.ok m hb (h.tags b hb) (h.heads b hb) (by split <;> simp)
  unfold tint_Black.f
  refine Eq.trans (bind_is ho _) ?_
  dsimp only
  rw [if_pos rfl]
  exact bind_is (par_of h.ok _ hq) _
theorem counted_no {n : Nat} (hs : n < 1000) {ks : Int → Int} {l L : List Int} (h : Ring n ks l L) (m : Int) {b q : Int} (hb : 0 ≤ b ∧ b < (n : Int)) (hq : rd l ((10 : Nat) : Int) = q) (hp : rd l ((11 : Nat) : Int) = 2) (hc : ¬ ks b / 8 % 2 = q) : ∃ m', tint_Counted.f l m (n : Int) 16 1 1 (b + 1) 0 = some (false, m') := by
  have ho := of_word hs h.ok m hb (h.tags b hb) (h.heads b hb) (by split <;> simp)
  obtain ⟨x, y, ha⟩ := at_of h.ok (up (up m))
  refine ⟨up (up (up (up (up m)))), ?_⟩
  unfold tint_Counted.f
  refine Eq.trans (bind_is ho _) ?_
  dsimp only
  rw [if_pos rfl, if_neg (by decide)]
  refine Eq.trans (bind_is (par_of h.ok _ hq) _) ?_
  dsimp only
  rw [if_neg hc]
  refine Eq.trans (bind_is ha _) ?_
  refine Eq.trans (bind_is (pha_of h.ok _ hp) _) ?_
  dsimp only
  rw [if_neg (by decide)]
theorem shadow_no {n : Nat} (hs : n < 1000) {ks : Int → Int} {l L : List Int} (h : Ring n ks l L) (m : Int) {b q : Int} (hb : 0 ≤ b ∧ b < (n : Int)) (hq : rd l ((10 : Nat) : Int) = q) (hc : ¬ ks b / 16 % 2 = q) : ∃ m', tint_Shadow.f l m (n : Int) 16 1 1 (b + 1) = some (0, m') := by
  have ho := of_word hs h.ok m hb (h.tags b hb) (h.heads b hb) (by split <;> simp)
  refine ⟨up (up m), ?_⟩
  unfold tint_Shadow.f
  refine Eq.trans (bind_is ho _) ?_
  dsimp only
  rw [if_pos rfl]
  refine Eq.trans (bind_is (par_of h.ok _ hq) _) ?_
  dsimp only
  rw [if_neg hc]
theorem paint_at {n : Nat} (hs : n < 1000) {ks : Int → Int} {l L : List Int} (h : Ring n ks l L) (m : Int) (k : Nat) (hk : 60 ≤ k) {b q : Int} (hb : 0 ≤ b ∧ b < (n : Int)) (hn : b ∉ L) (hq : rd l ((10 : Nat) : Int) = q) (h01 : q = 0 ∨ q = 1) :
    ∃ m' l' ks', tint_Paint.f k l m (n : Int) 16 1 1 (b + 1) = some (true, m', l') ∧ Ring n ks' l' L ∧ ks' b / 4 % 2 = q ∧ (∀ c, c ≠ b → ks' c = ks c) ∧ (∀ i : Nat, i < 24 → rd l' (i : Int) = rd l (i : Int)) := by
  have hh := h.heads b hb
  have ho := of_word hs h.ok m hb (h.tags b hb) hh (by split <;> simp)
  rw [if_neg hn] at ho
  have hx := hh
  unfold isHd at hx
  have hq' := pkG k hk (C := q) (N := ks b / 8 % 2) (S := ks b / 16 % 2) (r := 0) h01 (by omega) (by omega) (Or.inl rfl)
  generalize hy : 1 + 4 * q + 8 * (ks b / 8 % 2) + 16 * (ks b / 16 % 2) + 64 * 0 = y at hq'
  have hyh : isHd y := by unfold isHd; omega
  refine ⟨up (up (up m)), l.set (wp 16 1 b 0) y, fun c => if c = b then y else ks c, ?_, ⟨h.ok.set _ y (by unfold isHd at hyh; omega) (by unfold isHd at hyh; omega), h.mem, h.nd, fun c hc => ?_, fun c hc => ?_, ?_, ?_, ?_, ?_⟩, ?_, fun c hc => if_neg hc, fun i hi => reg_word h.ok.may h.ok.len hb zz hi⟩
  · have hc : tint_change_F59.f k l m (n : Int) 16 1 1 (b + 1) = some (true, up (up (up m)), l.set (wp 16 1 b 0) y) := ?_
    · unfold tint_Paint.f
      exact bind_is hc _
    unfold tint_change_F59.f tint_Paint_1.f
    refine Eq.trans (bind_is ho _) ?_
    dsimp only
    rw [if_pos rfl]
    refine Eq.trans (bind_is (par_of h.ok _ hq) _) ?_
    refine Eq.trans (Option.bind_some _ _) ?_
    rw [hh.2.2]
    refine Eq.trans (bind_is hq' _) ?_
    dsimp only
    rw [if_pos rfl, wb hs hb]
    exact bind_is (SetWord_at h.ok _ hb zz y) _
  · rw [word_set h.ok.may h.ok.len hb hc zz zz]
    by_cases e : c = b
    · subst e
      rw [if_pos ⟨rfl, rfl⟩, if_neg hn, if_pos rfl]; omega
    · rw [if_neg (fun q => e q.1.symm), h.tags c hc]
      try dsimp only
      rw [if_neg e]
  · try dsimp only
    by_cases e : c = b
    · rw [if_pos e]; exact hyh
    · rw [if_neg e]; exact h.heads c hc
  · rw [reg_word h.ok.may h.ok.len hb zz (by decide)]; exact h.first
  · rw [reg_word h.ok.may h.ok.len hb zz (by decide)]; exact h.last
  · rw [reg_word h.ok.may h.ok.len hb zz (by decide)]; exact h.count
  · exact RLe.same (fun x hx => ⟨by rw [word_set h.ok.may h.ok.len hb (h.mem x hx) zz z6, if_neg (by omega)], by rw [word_set h.ok.may h.ok.len hb (h.mem x hx) zz z7, if_neg (by omega)]⟩) h.links
  · try dsimp only
    rw [if_pos rfl]; omega
theorem touch_at {n : Nat} (hs : n < 1000) {ks : Int → Int} {l L : List Int} (h : Ring n ks l L) (m : Int) (k : Nat) (hk : 60 ≤ k) {b q : Int} (hb : 0 ≤ b ∧ b < (n : Int)) (hn : b ∉ L) (hq : rd l ((10 : Nat) : Int) = q) (h01 : q = 0 ∨ q = 1) (hp : rd l ((11 : Nat) : Int) = 2) (hc : ¬ ks b / 4 % 2 = q) :
    ∃ m' l' ks', tint_Touch.f k l m (n : Int) 16 1 1 (b + 1) = some (true, m', l') ∧ Ring n ks' l' (L ++ [b]) ∧ ks' b / 4 % 2 = q ∧ (∀ c, c ≠ b → ks' c = ks c) ∧ (∀ i : Nat, 9 < i → i < 24 → rd l' (i : Int) = rd l (i : Int)) := by
  have ho := of_word hs h.ok m hb (h.tags b hb) (h.heads b hb) (by split <;> simp)
  obtain ⟨m1, l1, ks', e1, h1, c1, c2, c3⟩ := paint_at hs h (up (up (up m))) k hk hb hn hq h01
  obtain ⟨m2, l2, e2, h2, c4⟩ := add_ring hs h1 m1 k hk hb hn
  refine ⟨m2, l2, ks', ?_, h2, c1, c2, fun i h3 h4 => (c4 i h3 h4).trans (c3 i h4)⟩
  unfold tint_Touch.f
  refine Eq.trans (bind_is ho _) ?_
  dsimp only
  rw [if_pos rfl]
  refine Eq.trans (bind_is (pha_of h.ok _ hp) _) ?_
  dsimp only
  rw [if_neg (by decide), if_neg (by decide)]
  refine Eq.trans (bind_is (par_of h.ok _ hq) _) ?_
  dsimp only
  rw [if_neg hc]
  refine Eq.trans (bind_is e1 _) ?_
  dsimp only
  rw [if_pos rfl, wb hs hb]
  exact bind_is e2 _
theorem begun2 : quitrentlaw13_begun.f 2000 = some true := by decide +kernel
theorem shapeK (k : Nat) (hk : 900 ≤ k) : shape_Blocks.f k 16 1 0 = some (1, 0) := by
  obtain ⟨k, rfl⟩ : ∃ q, k = q + 900 := ⟨k - 900, by omega⟩
  kernel_rfl
theorem makes_lo0 {n : Nat} (hs : n < 300) {p : Int} (h01 : p = 0 ∨ p = 1) (kp : Nat) (hk0 : 300 ≤ kp) (mm x1 x2 : Int) (y1 y2 ws y3 : List Int) (hsh : ∀ k, kp ≤ k → shape_Blocks.f k 16 1 0 = some (1, 0)) : ∀ (d k i : Nat) (l : List Int) (m : Int), IA n p i l → i + d = n → d + kp < k →
    ∃ l' m', quitrentlaw13_TintTurns.lo0 k (n : Int) (true, (n : Int), 16, 1, 1, mm, x1, x2, y1, y2, ws, y3) (i : Int) l m = some (.out (l', m')) ∧ IA n p n l' := by
  intro d
  induction d with
  | zero =>
    intro k i l m h hi hk
    obtain ⟨k, rfl⟩ : ∃ q, k = q + 1 := ⟨k - 1, by omega⟩
    obtain rfl : i = n := by omega
    exact ⟨l, m, by rw [quitrentlaw13_TintTurns.lo0, wrap64_id (n := (i : Int)) (by omega) (by omega), if_neg (by omega)], h⟩
  | succ d ih =>
    intro k i l m h hi hk
    obtain ⟨k, rfl⟩ : ∃ q, k = q + 1 := ⟨k - 1, by omega⟩
    have hb : 0 ≤ (i : Int) ∧ (i : Int) < (n : Int) := by omega
    obtain ⟨m1, l1, e1, hO1, hL1, hM1, hw1, ht1, hr1⟩ := make_at (by omega) (by omega) h m k (by omega) (hsh k (by omega))
    have hp1 : rd l1 ((10 : Nat) : Int) = p := by rw [hr1 10 (by decide) (by decide), if_pos rfl]
    have e2 := dye_at (by omega) hO1 m1 k (by omega) hb hw1 hp1 h01
    have hv : 0 ≤ tv p ∧ tv p < 4294967296 := by unfold tv; omega
    have h4 := hO1.set (wp 16 1 (i : Int) 4) 0 (by decide) (by decide)
    have h5 := h4.set (wp 16 1 (i : Int) 0) (tv p) hv.1 hv.2
    have h' : IA n p (i + 1) ((l1.set (wp 16 1 (i : Int) 4) 0).set (wp 16 1 (i : Int) 0) (tv p)) := ⟨h5, Chain.word hO1.may h4.len (by decide) hb zz (Or.inl (by decide)) _ (Chain.word hO1.may hO1.len (by decide) hb z4 (Or.inl (by decide)) _ hL1),
      Chain.word hO1.may h4.len (by decide) hb zz (Or.inl (by decide)) _ (Chain.word hO1.may hO1.len (by decide) hb z4 (Or.inl (by decide)) _ hM1), fun c hc => by
        have hcn : 0 ≤ c ∧ c < (n : Int) := by omega
        rw [word_set hO1.may h4.len hb hcn zz zz]
        by_cases e : (i : Int) = c
        · rw [if_pos ⟨e, rfl⟩]
        · rw [if_neg (fun q => e q.1), word_set hO1.may hO1.len hb hcn z4 zz, if_neg (by omega)]
          exact ht1 c (by omega), fun j h2 h3 => by
        rw [reg_word hO1.may h4.len hb zz h2, reg_word hO1.may hO1.len hb z4 h2]; exact hr1 j h2 h3⟩
    have e3 := counted_yes (by omega) h5 (up (up (up (up m1)))) hb (h'.tags (i : Int) (by omega)) (by rw [h'.regs 10 (by decide) (by decide), if_pos rfl]) h01
    obtain ⟨l', m', e, hf⟩ := ih k (i + 1) _ (up (up (up (up (up (up m1)))))) h' (by omega) (by omega)
    refine ⟨l', m', ?_, hf⟩
    rw [quitrentlaw13_TintTurns.lo0, wrap64_id (n := (n : Int)) (by omega) (by omega), if_pos (by omega)]
    refine Eq.trans (bind_is e1 _) ?_
    dsimp only
    rw [if_pos rfl]
    refine Eq.trans (bind_is e2 _) ?_
    dsimp only
    rw [if_pos rfl]
    refine Eq.trans (bind_is e3 _) ?_
    dsimp only
    rw [if_pos rfl, next_i i (by omega)]
    exact e
theorem deeps_lo1 {n : Nat} (h1 : 1 ≤ n) (hs : n < 300) {p : Int} (h01 : p = 0 ∨ p = 1) (X : List Int) (hX : ∀ x ∈ X, 0 ≤ x ∧ x ≤ 255) (hXl : X.length ≤ 1000) (mm x1 x2 : Int) (y1 y2 ws y3 : List Int) : ∀ (d k j : Nat) (l : List Int) (m : Int), IB n p l → j + d = X.length → d + 100 < k →
    ∃ l' m', quitrentlaw13_TintTurns.lo1 k (n : Int) X (true, (n : Int), 16, 1, 1, mm, x1, x2, y1, y2, ws, y3) (j : Int) l m = some (l', m') ∧ IB n p l' := by
  intro d
  induction d with
  | zero =>
    intro k j l m h hj hk
    obtain ⟨k, rfl⟩ : ∃ q, k = q + 1 := ⟨k - 1, by omega⟩
    exact ⟨l, m, by rw [quitrentlaw13_TintTurns.lo1, if_neg (by omega)], h⟩
  | succ d ih =>
    intro k j l m h hj hk
    obtain ⟨k, rfl⟩ : ∃ q, k = q + 1 := ⟨k - 1, by omega⟩
    have hjl : j < X.length := by omega
    obtain ⟨b, hbn, eb⟩ := modn h1 (hX X[j] (List.getElem_mem hjl))
    have hb : 0 ≤ (b : Int) ∧ (b : Int) < (n : Int) := by omega
    obtain ⟨m1, v, e1, v0, v1⟩ := deepen_at (by omega) h.ok m k (by omega) hb (h.tags _ hb) (by rw [h.regs 10 (by decide) (by decide), if_pos rfl]) h01
    have hv : 0 ≤ tv p ∧ tv p < 4294967296 := by unfold tv; omega
    have h4 := h.ok.set (wp 16 1 (b : Int) 4) v v0 v1
    have h' : IB n p ((l.set (wp 16 1 (b : Int) 4) v).set (wp 16 1 (b : Int) 0) (tv p)) := ⟨h4.set _ _ hv.1 hv.2, fun c hc => by
        rw [word_set h.ok.may h4.len hb hc zz zz]
        by_cases e : (b : Int) = c
        · rw [if_pos ⟨e, rfl⟩]
        · rw [if_neg (fun q => e q.1), word_set h.ok.may h.ok.len hb hc z4 zz, if_neg (by omega)]
          exact h.tags c hc, fun j h2 h3 => by
        rw [reg_word h.ok.may h4.len hb zz h2, reg_word h.ok.may h.ok.len hb z4 h2]; exact h.regs j h2 h3⟩
    obtain ⟨l', m', e, hf⟩ := ih k (j + 1) _ m1 h' (by omega) (by omega)
    refine ⟨l', m', ?_, hf⟩
    rw [quitrentlaw13_TintTurns.lo1, if_pos (by omega), if_pos (by omega), if_neg (by omega), rd_nat X j hjl, eb, wrap64_id (n := (b : Int) + 1) (by omega) (by omega)]
    refine Eq.trans (bind_is e1 _) ?_
    dsimp only
    rw [next_i j (by omega)]
    exact e
theorem looks_lo2 {n : Nat} (h1 : 1 ≤ n) (hs : n < 300) {p q : Int} (h01 : p = 0 ∨ p = 1) (hq : q = 1 - p) (mm x1 x2 : Int) (y1 y2 ws y3 : List Int) : ∀ (d k j : Nat) (l : List Int) (m : Int) (ks : Int → Int), Ring n ks l (iv 0 j) → (∀ b : Int, (j : Int) ≤ b ∧ b < (n : Int) → ks b = tv p) → rd l ((10 : Nat) : Int) = q → rd l ((11 : Nat) : Int) = 2 → j + d = n → d + 100 < k →
    ∃ l' m' ks', quitrentlaw13_TintTurns.lo2 k (n : Int) (true, (n : Int), 16, 1, 1, mm, x1, x2, y1, y2, ws, y3) ((j : Int) + 1) l m = some (.out (l', m')) ∧ Ring n ks' l' (iv 0 n) ∧ rd l' ((10 : Nat) : Int) = q := by
  intro d
  induction d with
  | zero =>
    intro k j l m ks h ht hp hf hj hk
    obtain ⟨k, rfl⟩ : ∃ q, k = q + 1 := ⟨k - 1, by omega⟩
    obtain rfl : j = n := by omega
    exact ⟨l, m, ks, by rw [quitrentlaw13_TintTurns.lo2, wrap64_id (n := (j : Int)) (by omega) (by omega), if_neg (by omega)], h, hp⟩
  | succ d ih =>
    intro k j l m ks h ht hp hf hj hk
    obtain ⟨k, rfl⟩ : ∃ q, k = q + 1 := ⟨k - 1, by omega⟩
    have hb : 0 ≤ (j : Int) ∧ (j : Int) < (n : Int) := by omega
    have hn : (j : Int) ∉ iv 0 j := fun e => by have := iv_mem e; omega
    obtain ⟨t1, t2, t3, t4⟩ := tv_bits h01
    have hk0 := ht (j : Int) ⟨Int.le_refl _, hb.2⟩
    have e1 := black_at (by omega) h m hb hp
    have f1 : (ks (j : Int) / 4 % 2 == q) = false := by rw [hk0, t2]; exact beq_eq_false_iff_ne.2 (by omega)
    obtain ⟨m2, e2⟩ := counted_no (by omega) h (up (up m)) hb hp hf (by rw [hk0, t3]; omega)
    obtain ⟨m3, e3⟩ := shadow_no (by omega) h m2 hb hp (by rw [hk0, t4]; omega)
    obtain ⟨m4, l4, ks4, e4, h4, c1, c2, c3⟩ := touch_at (by omega) h m3 k (by omega) hb hn hp (by omega) hf (by rw [hk0, t2]; omega)
    rw [← iv_snoc (by omega)] at h4
    have hp4 : rd l4 ((10 : Nat) : Int) = q := by rw [c3 10 (by decide) (by decide)]; exact hp
    have hf4 : rd l4 ((11 : Nat) : Int) = 2 := by rw [c3 11 (by decide) (by decide)]; exact hf
    have e5 := black_at (by omega) h4 m4 hb hp4
    obtain ⟨m6, e6⟩ := has_in h4 (up (up m4)) (b := (j : Int)) (by rw [iv_snoc (by omega)]; simp)
    obtain ⟨l', m', ks', e, hR, hq'⟩ := ih k (j + 1) l4 m6 ks4 h4 (fun b hb2 => by rw [c2 b (by omega)]; exact ht b (by omega)) hp4 hf4 (by omega) (by omega)
    refine ⟨l', m', ks', ?_, hR, hq'⟩
    rw [quitrentlaw13_TintTurns.lo2, wrap64_id (n := (n : Int)) (by omega) (by omega), if_pos (by omega)]
    refine Eq.trans (bind_is e1 _) ?_
    dsimp only
    rw [f1, if_neg (by decide)]
    refine Eq.trans (bind_is e2 _) ?_
    dsimp only
    rw [if_neg (by decide)]
    refine Eq.trans (bind_is e3 _) ?_
    dsimp only
    rw [if_pos rfl]
    refine Eq.trans (bind_is e4 _) ?_
    dsimp only
    rw [if_pos rfl]
    refine Eq.trans (bind_is e5 _) ?_
    dsimp only
    rw [c1, if_pos (beq_self_eq_true q), wb (by omega) hb]
    refine Eq.trans (bind_is e6 _) ?_
    dsimp only
    rw [if_pos rfl, wrap64_id (n := (j : Int) + 1 + 1) (by omega) (by omega), show (j : Int) + 1 + 1 = ((j + 1 : Nat) : Int) + 1 by omega]
    exact e
theorem makes_lo3 {n : Nat} (hs : n < 300) {p : Int} (h01 : p = 0 ∨ p = 1) (kp : Nat) (hk0 : 300 ≤ kp) (mm x1 x2 : Int) (y1 y2 ws y3 : List Int) (hsh : ∀ k, kp ≤ k → shape_Blocks.f k 16 1 0 = some (1, 0)) : ∀ (d k i : Nat) (l : List Int) (m : Int), IA n p i l → i + d = n → d + kp < k →
    ∃ l' m', quitrentlaw13_TintTurns.lo3 k (n : Int) (true, (n : Int), 16, 1, 1, mm, x1, x2, y1, y2, ws, y3) (i : Int) l m = some (.out (l', m')) ∧ IA n p n l' := by
  intro d
  induction d with
  | zero =>
    intro k i l m h hi hk
    obtain ⟨k, rfl⟩ : ∃ q, k = q + 1 := ⟨k - 1, by omega⟩
    obtain rfl : i = n := by omega
    exact ⟨l, m, by rw [quitrentlaw13_TintTurns.lo3, wrap64_id (n := (i : Int)) (by omega) (by omega), if_neg (by omega)], h⟩
  | succ d ih =>
    intro k i l m h hi hk
    obtain ⟨k, rfl⟩ : ∃ q, k = q + 1 := ⟨k - 1, by omega⟩
    have hb : 0 ≤ (i : Int) ∧ (i : Int) < (n : Int) := by omega
    obtain ⟨m1, l1, e1, hO1, hL1, hM1, hw1, ht1, hr1⟩ := make_at (by omega) (by omega) h m k (by omega) (hsh k (by omega))
    have hp1 : rd l1 ((10 : Nat) : Int) = p := by rw [hr1 10 (by decide) (by decide), if_pos rfl]
    have e2 := dye_at (by omega) hO1 m1 k (by omega) hb hw1 hp1 h01
    have hv : 0 ≤ tv p ∧ tv p < 4294967296 := by unfold tv; omega
    have h4 := hO1.set (wp 16 1 (i : Int) 4) 0 (by decide) (by decide)
    have h5 := h4.set (wp 16 1 (i : Int) 0) (tv p) hv.1 hv.2
    have h' : IA n p (i + 1) ((l1.set (wp 16 1 (i : Int) 4) 0).set (wp 16 1 (i : Int) 0) (tv p)) := ⟨h5, Chain.word hO1.may h4.len (by decide) hb zz (Or.inl (by decide)) _ (Chain.word hO1.may hO1.len (by decide) hb z4 (Or.inl (by decide)) _ hL1),
      Chain.word hO1.may h4.len (by decide) hb zz (Or.inl (by decide)) _ (Chain.word hO1.may hO1.len (by decide) hb z4 (Or.inl (by decide)) _ hM1), fun c hc => by
        have hcn : 0 ≤ c ∧ c < (n : Int) := by omega
        rw [word_set hO1.may h4.len hb hcn zz zz]
        by_cases e : (i : Int) = c
        · rw [if_pos ⟨e, rfl⟩]
        · rw [if_neg (fun q => e q.1), word_set hO1.may hO1.len hb hcn z4 zz, if_neg (by omega)]
          exact ht1 c (by omega), fun j h2 h3 => by
        rw [reg_word hO1.may h4.len hb zz h2, reg_word hO1.may hO1.len hb z4 h2]; exact hr1 j h2 h3⟩
    have e3 := counted_yes (by omega) h5 (up (up (up (up m1)))) hb (h'.tags (i : Int) (by omega)) (by rw [h'.regs 10 (by decide) (by decide), if_pos rfl]) h01
    obtain ⟨l', m', e, hf⟩ := ih k (i + 1) _ (up (up (up (up (up (up m1)))))) h' (by omega) (by omega)
    refine ⟨l', m', ?_, hf⟩
    rw [quitrentlaw13_TintTurns.lo3, wrap64_id (n := (n : Int)) (by omega) (by omega), if_pos (by omega)]
    refine Eq.trans (bind_is e1 _) ?_
    dsimp only
    rw [if_pos rfl]
    refine Eq.trans (bind_is e2 _) ?_
    dsimp only
    rw [if_pos rfl]
    refine Eq.trans (bind_is e3 _) ?_
    dsimp only
    rw [if_pos rfl, next_i i (by omega)]
    exact e
theorem deeps_lo4 {n : Nat} (h1 : 1 ≤ n) (hs : n < 300) {p : Int} (h01 : p = 0 ∨ p = 1) (X : List Int) (hX : ∀ x ∈ X, 0 ≤ x ∧ x ≤ 255) (hXl : X.length ≤ 1000) (mm x1 x2 : Int) (y1 y2 ws y3 : List Int) : ∀ (d k j : Nat) (l : List Int) (m : Int), IB n p l → j + d = X.length → d + 100 < k →
    ∃ l' m', quitrentlaw13_TintTurns.lo4 k (n : Int) X (true, (n : Int), 16, 1, 1, mm, x1, x2, y1, y2, ws, y3) (j : Int) l m = some (l', m') ∧ IB n p l' := by
  intro d
  induction d with
  | zero =>
    intro k j l m h hj hk
    obtain ⟨k, rfl⟩ : ∃ q, k = q + 1 := ⟨k - 1, by omega⟩
    exact ⟨l, m, by rw [quitrentlaw13_TintTurns.lo4, if_neg (by omega)], h⟩
  | succ d ih =>
    intro k j l m h hj hk
    obtain ⟨k, rfl⟩ : ∃ q, k = q + 1 := ⟨k - 1, by omega⟩
    have hjl : j < X.length := by omega
    obtain ⟨b, hbn, eb⟩ := modn h1 (hX X[j] (List.getElem_mem hjl))
    have hb : 0 ≤ (b : Int) ∧ (b : Int) < (n : Int) := by omega
    obtain ⟨m1, v, e1, v0, v1⟩ := deepen_at (by omega) h.ok m k (by omega) hb (h.tags _ hb) (by rw [h.regs 10 (by decide) (by decide), if_pos rfl]) h01
    have hv : 0 ≤ tv p ∧ tv p < 4294967296 := by unfold tv; omega
    have h4 := h.ok.set (wp 16 1 (b : Int) 4) v v0 v1
    have h' : IB n p ((l.set (wp 16 1 (b : Int) 4) v).set (wp 16 1 (b : Int) 0) (tv p)) := ⟨h4.set _ _ hv.1 hv.2, fun c hc => by
        rw [word_set h.ok.may h4.len hb hc zz zz]
        by_cases e : (b : Int) = c
        · rw [if_pos ⟨e, rfl⟩]
        · rw [if_neg (fun q => e q.1), word_set h.ok.may h.ok.len hb hc z4 zz, if_neg (by omega)]
          exact h.tags c hc, fun j h2 h3 => by
        rw [reg_word h.ok.may h4.len hb zz h2, reg_word h.ok.may h.ok.len hb z4 h2]; exact h.regs j h2 h3⟩
    obtain ⟨l', m', e, hf⟩ := ih k (j + 1) _ m1 h' (by omega) (by omega)
    refine ⟨l', m', ?_, hf⟩
    rw [quitrentlaw13_TintTurns.lo4, if_pos (by omega), if_pos (by omega), if_neg (by omega), rd_nat X j hjl, eb, wrap64_id (n := (b : Int) + 1) (by omega) (by omega)]
    refine Eq.trans (bind_is e1 _) ?_
    dsimp only
    rw [next_i j (by omega)]
    exact e
theorem looks_lo5 {n : Nat} (h1 : 1 ≤ n) (hs : n < 300) {p q : Int} (h01 : p = 0 ∨ p = 1) (hq : q = 1 - p) (mm x1 x2 : Int) (y1 y2 ws y3 : List Int) : ∀ (d k j : Nat) (l : List Int) (m : Int) (ks : Int → Int), Ring n ks l (iv 0 j) → (∀ b : Int, (j : Int) ≤ b ∧ b < (n : Int) → ks b = tv p) → rd l ((10 : Nat) : Int) = q → rd l ((11 : Nat) : Int) = 2 → j + d = n → d + 100 < k →
    ∃ l' m' ks', quitrentlaw13_TintTurns.lo5 k (n : Int) (true, (n : Int), 16, 1, 1, mm, x1, x2, y1, y2, ws, y3) ((j : Int) + 1) l m = some (.out (l', m')) ∧ Ring n ks' l' (iv 0 n) ∧ rd l' ((10 : Nat) : Int) = q := by
  intro d
  induction d with
  | zero =>
    intro k j l m ks h ht hp hf hj hk
    obtain ⟨k, rfl⟩ : ∃ q, k = q + 1 := ⟨k - 1, by omega⟩
    obtain rfl : j = n := by omega
    exact ⟨l, m, ks, by rw [quitrentlaw13_TintTurns.lo5, wrap64_id (n := (j : Int)) (by omega) (by omega), if_neg (by omega)], h, hp⟩
  | succ d ih =>
    intro k j l m ks h ht hp hf hj hk
    obtain ⟨k, rfl⟩ : ∃ q, k = q + 1 := ⟨k - 1, by omega⟩
    have hb : 0 ≤ (j : Int) ∧ (j : Int) < (n : Int) := by omega
    have hn : (j : Int) ∉ iv 0 j := fun e => by have := iv_mem e; omega
    obtain ⟨t1, t2, t3, t4⟩ := tv_bits h01
    have hk0 := ht (j : Int) ⟨Int.le_refl _, hb.2⟩
    have e1 := black_at (by omega) h m hb hp
    have f1 : (ks (j : Int) / 4 % 2 == q) = false := by rw [hk0, t2]; exact beq_eq_false_iff_ne.2 (by omega)
    obtain ⟨m2, e2⟩ := counted_no (by omega) h (up (up m)) hb hp hf (by rw [hk0, t3]; omega)
    obtain ⟨m3, e3⟩ := shadow_no (by omega) h m2 hb hp (by rw [hk0, t4]; omega)
    obtain ⟨m4, l4, ks4, e4, h4, c1, c2, c3⟩ := touch_at (by omega) h m3 k (by omega) hb hn hp (by omega) hf (by rw [hk0, t2]; omega)
    rw [← iv_snoc (by omega)] at h4
    have hp4 : rd l4 ((10 : Nat) : Int) = q := by rw [c3 10 (by decide) (by decide)]; exact hp
    have hf4 : rd l4 ((11 : Nat) : Int) = 2 := by rw [c3 11 (by decide) (by decide)]; exact hf
    have e5 := black_at (by omega) h4 m4 hb hp4
    obtain ⟨m6, e6⟩ := has_in h4 (up (up m4)) (b := (j : Int)) (by rw [iv_snoc (by omega)]; simp)
    obtain ⟨l', m', ks', e, hR, hq'⟩ := ih k (j + 1) l4 m6 ks4 h4 (fun b hb2 => by rw [c2 b (by omega)]; exact ht b (by omega)) hp4 hf4 (by omega) (by omega)
    refine ⟨l', m', ks', ?_, hR, hq'⟩
    rw [quitrentlaw13_TintTurns.lo5, wrap64_id (n := (n : Int)) (by omega) (by omega), if_pos (by omega)]
    refine Eq.trans (bind_is e1 _) ?_
    dsimp only
    rw [f1, if_neg (by decide)]
    refine Eq.trans (bind_is e2 _) ?_
    dsimp only
    rw [if_neg (by decide)]
    refine Eq.trans (bind_is e3 _) ?_
    dsimp only
    rw [if_pos rfl]
    refine Eq.trans (bind_is e4 _) ?_
    dsimp only
    rw [if_pos rfl]
    refine Eq.trans (bind_is e5 _) ?_
    dsimp only
    rw [c1, if_pos (beq_self_eq_true q), wb (by omega) hb]
    refine Eq.trans (bind_is e6 _) ?_
    dsimp only
    rw [if_pos rfl, wrap64_id (n := (j : Int) + 1 + 1) (by omega) (by omega), show (j : Int) + 1 + 1 = ((j + 1 : Nat) : Int) + 1 by omega]
    exact e
theorem TintTurns (a : Int) (X : List Int) (back : Bool) (ha : (Lit.int .u8 a).wf = true) (_ : X.length ≤ 9223372036854775807) (hX : ∀ x ∈ X, (Lit.int .u8 x).wf = true) : ∃ k, quitrentlaw13_TintTurns.f k a X back = some true := by
  rw [Lit.wf_int_iff] at ha
  have q0 : 0 ≤ a := ha.1
  have hb : quitrentlaw13_begun.f 2000 = some true := begun2
  have hsh : ∀ k, 900 ≤ k → shape_Blocks.f k 16 1 0 = some (1, 0) := shapeK
  generalize hk : 2000 = k at *
  refine ⟨k, ?_⟩
  unfold quitrentlaw13_TintTurns.f
  by_cases h1 : a < 1
  · rw [if_pos h1]; exact bind_is hb _
  by_cases h2 : a > 40
  · rw [if_neg h1, if_pos h2]; exact bind_is hb _
  by_cases h3 : (X.length : Int) > 100
  · rw [if_neg h1, if_neg h2, if_pos h3]; exact bind_is hb _
  rw [if_neg h1, if_neg h2, if_neg h3]
  obtain ⟨n, rfl⟩ := Int.eq_ofNat_of_zero_le q0
  have h1n : 1 ≤ n := by omega
  have hX' : ∀ x ∈ X, 0 ≤ x ∧ x ≤ 255 := fun x hx => by have := hX x hx; rw [Lit.wf_int_iff] at this; exact ⟨this.1, this.2⟩
  have hm : mayv (n : Int) 16 1 1 := by unfold mayv; omega
  obtain ⟨m1, l1, e1, hO1, hL1, hM1, hF⟩ := open_pool (n := n) rfl (by omega) (OK.zero hm) (chain_empty hm) (chain_empty hm) 0 k (by omega)
  have e2 : quitrentref12_New.f k (n : Int) 16 = some ((n : Int), 16, [], [], iv 0 n) := by
    unfold quitrentref12_New.f quitrentref11_New.f quitrentref10_Open.f
    have := openref_lo (n : Int) n rfl (by omega) n k 0 (by omega) (by omega)
    rw [iv_self] at this
    have this' : quitrentref10_Open.lo0 k (n : Int) 0 [] = some (iv 0 n) := this
    rw [this']
    rfl
  have eo : quitrentlaw12_Opened.f k (wrap64 (n : Int)) 16 1 1 = some (.inr (true, (n : Int), 16, 1, 1, m1, (n : Int), 16, [], [], l1, iv 0 n)) := by
    rw [wrap64_id (n := (n : Int)) (by omega) (by omega)]
    unfold quitrentlaw12_Opened.f
    refine Eq.trans (bind_is (gnew_may k (by omega) _ _ _ _ hm) _) ?_
    refine Eq.trans (bind_is e1 _) ?_
    dsimp only
    rw [if_pos rfl]
    refine Eq.trans (bind_is e2 _) ?_
    rfl
  have hr : ∀ i : Nat, i < 24 → 5 < i → rd l1 (i : Int) = 0 := fun i h1 h2 => by
    rw [hF.regs i h1 (Or.inr (by omega))]
    simp only [rd, List.getD_eq_getElem?_getD, List.getElem?_replicate]
    split <;> rfl
  refine Eq.trans (bind_r eo _ _) ?_
  dsimp only
  rw [if_pos rfl]
  cases back with
  | true =>
    rw [if_pos rfl]
    have hO2 := hO1.set 10 (1 - 0) (by decide) (by decide)
    obtain ⟨m2, l2, e2, hA⟩ := begin_at (p := 1) hO2 (Chain.reg hm hO1.len (by decide) (by decide) (Or.inr (by decide)) _ hL1) (Chain.reg hm hO1.len (by decide) (by decide) (Or.inr (by decide)) _ hM1) (fun j h4 h5 => by
      rw [reg_reg hm hO1.len (by decide)]
      by_cases e : 10 = j
      · rw [if_pos e, if_pos e.symm]; rfl
      · rw [if_neg e, if_neg (fun q => e q.symm)]; exact hr j h4 h5) (up (up m1)) k (by omega)
    refine Eq.trans (bind_is (turn hO1 m1 (hr 10 (by decide) (by decide)) (Or.inl rfl)) _) ?_
    refine Eq.trans (bind_is e2 _) ?_
    dsimp only
    obtain ⟨l3, m3, e3, hA3⟩ := makes_lo0 (by omega) (p := 1) (by decide) 900 (by decide) m1 (n : Int) 16 [] [] l1 (iv 0 n) hsh n k 0 l2 m2 hA (by omega) (by omega)
    have e3' : quitrentlaw13_TintTurns.lo0 k (n : Int) (true, (n : Int), 16, 1, 1, m1, (n : Int), 16, [], [], l1, iv 0 n) 0 l2 m2 = some (.out (l3, m3)) := e3
    obtain ⟨l4, m4, e4, hB4⟩ := deeps_lo1 h1n (by omega) (p := 1) (by decide) X hX' (by omega) m1 (n : Int) 16 [] [] l1 (iv 0 n) X.length k 0 l3 m3 ⟨hA3.ok, hA3.tags, hA3.regs⟩ (by omega) (by omega)
    have e4' : quitrentlaw13_TintTurns.lo1 k (n : Int) X (true, (n : Int), 16, 1, 1, m1, (n : Int), 16, [], [], l1, iv 0 n) 0 l3 m3 = some (l4, m4) := e4
    have hp4 : rd l4 ((10 : Nat) : Int) = 1 := by rw [hB4.regs 10 (by decide) (by decide), if_pos rfl]
    have hO5 := hB4.ok.set 10 (1 - 1) (by decide) (by decide)
    have rg : ∀ i : Nat, i < 24 → 5 < i → i ≠ 10 → rd (l4.set 10 (1 - 1)) (i : Int) = if i = 11 then 2 else 0 := fun i h2 h3 h4 => by
      rw [reg_reg hB4.ok.may hB4.ok.len (by decide), if_neg (fun e => h4 e.symm), hB4.regs i h2 h3, if_neg h4]
    have hR5 : Ring n (fun _ => tv 1) (l4.set 10 (1 - 1)) (iv 0 0) := by
      rw [iv_self]
      exact ⟨hO5, by simp, by simp, fun b hb => by rw [word_reg hB4.ok.may hB4.ok.len hb zz (by decide), hB4.tags b hb, if_neg (by simp)]; omega, fun b _ => tv_head (by decide), rg 7 (by decide) (by decide) (by decide), rg 8 (by decide) (by decide) (by decide), rg 9 (by decide) (by decide) (by decide), trivial⟩
    obtain ⟨l6, m6, ks6, e6, hR6, hp6⟩ := looks_lo2 h1n (by omega) (p := 1) (q := 1 - 1) (by decide) rfl m1 (n : Int) 16 [] [] l1 (iv 0 n) n k 0 (l4.set 10 (1 - 1)) (up (up (up m4))) _ hR5 (fun _ _ => rfl) (by rw [reg_reg hB4.ok.may hB4.ok.len (by decide), if_pos rfl]) (rg 11 (by decide) (by decide) (by decide)) (by omega) (by omega)
    have e6' : quitrentlaw13_TintTurns.lo2 k (n : Int) (true, (n : Int), 16, 1, 1, m1, (n : Int), 16, [], [], l1, iv 0 n) 1 (l4.set 10 (1 - 1)) (up (up (up m4))) = some (.out (l6, m6)) := e6
    have e7 := ring_len hR6 (up m6)
    refine Eq.trans (bind_is e3' _) ?_
    simp only [M.Lp.elim]
    refine Eq.trans (bind_is e4' _) ?_
    refine Eq.trans (bind_is (par_of hB4.ok m4 hp4) _) ?_
    refine Eq.trans (bind_is (turn hB4.ok (up m4) hp4 (by decide)) _) ?_
    refine Eq.trans (bind_is e6' _) ?_
    simp only [M.Lp.elim]
    refine Eq.trans (bind_is hb _) ?_
    rw [if_pos rfl]
    refine Eq.trans (bind_is (par_of hR6.ok m6 hp6) _) ?_
    dsimp only
    rw [if_pos (by unfold wrap64; decide)]
    refine Eq.trans (bind_is e7 _) ?_
    rw [iv_len, wrap64_id (n := (n : Int)) (by omega) (by omega)]
    simp
  | false =>
    rw [if_neg (by decide)]
    obtain ⟨m2, l2, e2, hA⟩ := begin_at (p := 0) hO1 hL1 hM1 (fun j h4 h5 => by rw [hr j h4 h5]; split <;> rfl) m1 k (by omega)
    refine Eq.trans (bind_is e2 _) ?_
    dsimp only
    obtain ⟨l3, m3, e3, hA3⟩ := makes_lo3 (by omega) (p := 0) (by decide) 900 (by decide) m1 (n : Int) 16 [] [] l1 (iv 0 n) hsh n k 0 l2 m2 hA (by omega) (by omega)
    have e3' : quitrentlaw13_TintTurns.lo3 k (n : Int) (true, (n : Int), 16, 1, 1, m1, (n : Int), 16, [], [], l1, iv 0 n) 0 l2 m2 = some (.out (l3, m3)) := e3
    obtain ⟨l4, m4, e4, hB4⟩ := deeps_lo4 h1n (by omega) (p := 0) (by decide) X hX' (by omega) m1 (n : Int) 16 [] [] l1 (iv 0 n) X.length k 0 l3 m3 ⟨hA3.ok, hA3.tags, hA3.regs⟩ (by omega) (by omega)
    have e4' : quitrentlaw13_TintTurns.lo4 k (n : Int) X (true, (n : Int), 16, 1, 1, m1, (n : Int), 16, [], [], l1, iv 0 n) 0 l3 m3 = some (l4, m4) := e4
    have hp4 : rd l4 ((10 : Nat) : Int) = 0 := by rw [hB4.regs 10 (by decide) (by decide), if_pos rfl]
    have hO5 := hB4.ok.set 10 (1 - 0) (by decide) (by decide)
    have rg : ∀ i : Nat, i < 24 → 5 < i → i ≠ 10 → rd (l4.set 10 (1 - 0)) (i : Int) = if i = 11 then 2 else 0 := fun i h2 h3 h4 => by
      rw [reg_reg hB4.ok.may hB4.ok.len (by decide), if_neg (fun e => h4 e.symm), hB4.regs i h2 h3, if_neg h4]
    have hR5 : Ring n (fun _ => tv 0) (l4.set 10 (1 - 0)) (iv 0 0) := by
      rw [iv_self]
      exact ⟨hO5, by simp, by simp, fun b hb => by rw [word_reg hB4.ok.may hB4.ok.len hb zz (by decide), hB4.tags b hb, if_neg (by simp)]; omega, fun b _ => tv_head (by decide), rg 7 (by decide) (by decide) (by decide), rg 8 (by decide) (by decide) (by decide), rg 9 (by decide) (by decide) (by decide), trivial⟩
    obtain ⟨l6, m6, ks6, e6, hR6, hp6⟩ := looks_lo5 h1n (by omega) (p := 0) (q := 1 - 0) (by decide) rfl m1 (n : Int) 16 [] [] l1 (iv 0 n) n k 0 (l4.set 10 (1 - 0)) (up (up (up m4))) _ hR5 (fun _ _ => rfl) (by rw [reg_reg hB4.ok.may hB4.ok.len (by decide), if_pos rfl]) (rg 11 (by decide) (by decide) (by decide)) (by omega) (by omega)
    have e6' : quitrentlaw13_TintTurns.lo5 k (n : Int) (true, (n : Int), 16, 1, 1, m1, (n : Int), 16, [], [], l1, iv 0 n) 1 (l4.set 10 (1 - 0)) (up (up (up m4))) = some (.out (l6, m6)) := e6
    have e7 := ring_len hR6 (up m6)
    refine Eq.trans (bind_is e3' _) ?_
    simp only [M.Lp.elim]
    refine Eq.trans (bind_is e4' _) ?_
    refine Eq.trans (bind_is (par_of hB4.ok m4 hp4) _) ?_
    refine Eq.trans (bind_is (turn hB4.ok (up m4) hp4 (by decide)) _) ?_
    refine Eq.trans (bind_is e6' _) ?_
    simp only [M.Lp.elim]
    refine Eq.trans (bind_is hb _) ?_
    rw [if_pos rfl]
    refine Eq.trans (bind_is (par_of hR6.ok m6 hp6) _) ?_
    dsimp only
    rw [if_pos (by unfold wrap64; decide)]
    refine Eq.trans (bind_is e7 _) ?_
    rw [iv_len, wrap64_id (n := (n : Int)) (by omega) (by omega)]
    simp
end Go.Proofs.YtobeonkddamnoaaGreatDoor.V
