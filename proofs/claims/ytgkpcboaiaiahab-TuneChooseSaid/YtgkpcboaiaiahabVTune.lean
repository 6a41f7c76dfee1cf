/- The laws of the group Tune on the plain functions. No condition. -/
import Derived.Test.YtgkpcboaiaiahabMTune
import Derived.DataShut
import Derived.Laws.Bits64
namespace Go.Proofs.Ytgkpcboaiaiahab.V
open Go.RowKit Go.Proofs.Ytgkpcboaiaiahab.C Go.Proofs.Ytgkpcboaiaiahab.M Go.Proofs.YtgkpcboaiaiahabW.PrintWords
theorem wrap64_id {n : Int} (h0 : -9223372036854775808 ≤ n) (h1 : n ≤ 9223372036854775807) : wrap64 n = n := by unfold wrap64; omega
/-- What a number counts as. -/
def cnt (n : Int) : Int := max 0 (min n 1125899906842624)
def byv (n : Int) : Int := max 1 (cnt n)
theorem cnt_bounds (n : Int) : 0 ≤ cnt n ∧ cnt n ≤ 1125899906842624 := by unfold cnt; omega
theorem byv_bounds (n : Int) : 1 ≤ byv n ∧ byv n ≤ 1125899906842624 := by have := cnt_bounds n; unfold byv; omega
theorem cnt_id {n : Int} (h : 0 ≤ n) (h' : n ≤ 1125899906842624) : cnt n = n := by unfold cnt; omega
theorem clamp_eq (n lo hi : Int) : ratio_Clamp.f n lo hi = some (if n > hi then hi else if n < lo then lo else n) := by
  unfold ratio_Clamp.f; split <;> (try split) <;> simp_all
theorem counts_eq (n : Int) : ratio_counts.f n = some (cnt n) := by
  unfold ratio_counts.f; rw [clamp_eq]; simp only [Option.bind_some, cnt]
  congr 1
  by_cases h1 : n > 1125899906842624
  · rw [if_pos h1]; omega
  · rw [if_neg h1]
    by_cases h2 : n < 0
    · rw [if_pos h2]; omega
    · rw [if_neg h2]; omega
theorem by_eq (n : Int) : ratio_by.f n = some (byv n) := by
  unfold ratio_by.f byv; rw [counts_eq]; simp only [Option.bind_some]
  by_cases h : cnt n < 1
  · rw [if_pos h]; congr 1; omega
  · rw [if_neg h]; congr 1; omega
theorem tdiv_pos {a b : Int} (h : 0 ≤ a) : Int.tdiv a b = a / b := Int.tdiv_eq_ediv_of_nonneg h
def upv (a b : Int) : Int := (cnt a + byv b - 1) / byv b
theorem div_le {a b : Int} (h : 0 ≤ a) (hb : 1 ≤ b) : 0 ≤ a / b ∧ a / b ≤ a := ⟨Int.ediv_nonneg h (by omega), Int.ediv_le_self _ h⟩
theorem up_eq (a b : Int) : ratio_Up.f a b = some (upv a b) := by
  have ha := cnt_bounds a; have hb := byv_bounds b
  have hd := div_le (a := cnt a + byv b - 1) (by omega) hb.1
  unfold ratio_Up.f upv; simp only [counts_eq, by_eq, Option.bind_some]
  rw [if_neg (by omega), wrap64_id (n := cnt a + byv b) (by omega) (by omega), wrap64_id (n := cnt a + byv b - 1) (by omega) (by omega), tdiv_pos (by omega), wrap64_id (by omega) (by omega)]
theorem up_split {x y : Int} (hy : 1 ≤ y) : (x + y - 1) / y = if x % y > 0 then x / y + 1 else x / y := by
  have e := Int.mul_ediv_add_emod x y
  have h0 := Int.emod_nonneg x (show y ≠ 0 by omega)
  have h1 := Int.emod_lt_of_pos x (show 0 < y by omega)
  split
  · rw [Int.ediv_eq_iff_of_pos (by omega)]
    have : x / y * y = y * (x / y) := Int.mul_comm _ _
    constructor
    · rw [Int.add_mul]; omega
    · rw [Int.add_mul]; omega
  · rw [Int.ediv_eq_iff_of_pos (by omega)]
    have : x / y * y = y * (x / y) := Int.mul_comm _ _
    constructor <;> omega
/-! ### lists -/
theorem rd_at (l : List Int) (j : Nat) (h : j < l.length) : rd l (j : Int) = l[j] := by
  simp [rd, List.getD_eq_getElem?_getD, List.getElem?_eq_getElem h]
theorem drop_at (l : List Int) (j : Nat) (h : j < l.length) : l.drop j = rd l (j : Int) :: l.drop (j + 1) := by
  rw [rd_at l j h]; exact List.drop_eq_getElem_cons h
theorem next_at (j : Nat) (h : j < 100000) : wrap64 ((j : Int) + 1) = ((j + 1 : Nat) : Int) := by
  rw [wrap64_id (by omega) (by omega)]; omega
def sumv : List Int → Int
  | [] => 0
  | n :: l => cnt n + sumv l
def prodv : List Int → Int
  | [] => 1
  | n :: l => cnt n * prodv l
def low (n : Int) : Int := min n 1125899906842624
def zeroIn : List Int → Bool
  | [] => false
  | n :: l => cnt n == 0 || zeroIn l
theorem sumv_nonneg : ∀ l, 0 ≤ sumv l
  | [] => Int.le_refl 0
  | n :: l => by have := sumv_nonneg l; have := cnt_bounds n; simp only [sumv]; omega
theorem prodv_pos : ∀ l, zeroIn l = false → 1 ≤ prodv l
  | [], _ => Int.le_refl 1
  | n :: l, h => by
    simp only [zeroIn, Bool.or_eq_false_iff, beq_eq_false_iff_ne] at h
    have h1 := prodv_pos l h.2
    have h2 := cnt_bounds n
    have h3 : 1 ≤ cnt n := by omega
    simp only [prodv]
    have := Int.mul_le_mul h3 h1 (by omega) (by omega)
    omega
theorem sumv_append (a b : List Int) : sumv (a ++ b) = sumv a + sumv b := by
  induction a with
  | nil => simp [sumv]
  | cons n a ih => simp only [List.cons_append, sumv, ih]; omega
theorem sumv_reverse (l : List Int) : sumv l.reverse = sumv l := by
  induction l with
  | nil => rfl
  | cons n l ih => simp only [List.reverse_cons, sumv_append, sumv, ih]; omega
theorem prodv_append (a b : List Int) : prodv (a ++ b) = prodv a * prodv b := by
  induction a with
  | nil => simp [prodv]
  | cons n a ih => simp only [List.cons_append, prodv, ih, Int.mul_assoc]
theorem prodv_reverse (l : List Int) : prodv l.reverse = prodv l := by
  induction l with
  | nil => rfl
  | cons n l ih => simp only [List.reverse_cons, prodv_append, prodv, ih, Int.mul_one]; exact Int.mul_comm _ _
theorem zeroIn_append (a b : List Int) : zeroIn (a ++ b) = (zeroIn a || zeroIn b) := by
  induction a with
  | nil => rfl
  | cons n a ih => simp only [List.cons_append, zeroIn, ih, Bool.or_assoc]
theorem zeroIn_reverse (l : List Int) : zeroIn l.reverse = zeroIn l := by
  induction l with
  | nil => rfl
  | cons n l ih => simp only [List.reverse_cons, zeroIn_append, zeroIn, ih, Bool.or_false]; exact Bool.or_comm _ _
def addv (l : List Int) : Int := low (sumv l)
def mulv (l : List Int) : Int := if zeroIn l = true then 0 else low (prodv l)
theorem low_bounds {n : Int} (h : 0 ≤ n) : 0 ≤ low n ∧ low n ≤ 1125899906842624 := by unfold low; omega
theorem add_loop (l : List Int) (hl : l.length < 1000) : ∀ (d j k : Nat) (s : Int), j + d = l.length → d < k → 0 ≤ s → s ≤ 1125899906842624 → ratio_Add.lo0 k l s j = some (low (s + sumv (l.drop j))) := by
  intro d
  induction d with
  | zero =>
    intro j k s h hk h0 h1
    obtain ⟨k, rfl⟩ : ∃ q, k = q + 1 := ⟨k - 1, by omega⟩
    rw [ratio_Add.lo0, if_neg (by omega), List.drop_eq_nil_of_le (by omega)]
    simp only [sumv, low]; congr 1; omega
  | succ d ih =>
    intro j k s h hk h0 h1
    obtain ⟨k, rfl⟩ : ∃ q, k = q + 1 := ⟨k - 1, by omega⟩
    have hc := cnt_bounds (rd l j)
    have hs := sumv_nonneg (l.drop (j + 1))
    rw [ratio_Add.lo0, if_pos (by omega), if_pos (by omega), counts_eq, next_at j (by omega)]
    simp only [Option.bind_some]
    rw [wrap64_id (by omega) (by omega), drop_at l j (by omega)]
    split
    · rw [ih (j + 1) k _ (by omega) (by omega) (by omega) (by omega)]
      simp only [sumv, low]
      congr 1
      omega
    · rw [ih (j + 1) k _ (by omega) (by omega) (by omega) (by omega)]
      simp only [sumv]
      congr 2
      omega
theorem add_eq (k : Nat) (hk : 200 ≤ k) (l : List Int) (hl : l.length < 150) : ratio_Add.f k l = some (addv l) := by
  unfold ratio_Add.f
  have := add_loop l (by omega) l.length 0 k 0 (by omega) (by omega) (by omega) (by omega)
  rw [show ((0 : Nat) : Int) = 0 from rfl] at this
  rw [this]
  simp [addv]
theorem low_mul {s c : Int} (h0 : 0 ≤ s) (hc : 1 ≤ c) : low (low s * c) = low (s * c) := by
  unfold low
  by_cases h : s ≤ 1125899906842624
  · rw [show min s 1125899906842624 = s by omega]
  · rw [show min s 1125899906842624 = 1125899906842624 by omega]
    have h1 : 1125899906842624 * c ≤ s * c := Int.mul_le_mul_of_nonneg_right (by omega) (by omega)
    have h2 : 1125899906842624 * 1 ≤ 1125899906842624 * c := Int.mul_le_mul_of_nonneg_left hc (by omega)
    omega
theorem mul_step {s c : Int} (hc : 1 ≤ c) :
    (s ≤ wrap64 (Int.tdiv (1125899906842624 : Int) c)) ↔ s * c ≤ 1125899906842624 := by
  rw [tdiv_pos (by omega), wrap64_id (by have := div_le (a := 1125899906842624) (by omega) hc; omega) (by have := div_le (a := 1125899906842624) (by omega) hc; omega)]
  exact Int.le_ediv_iff_mul_le (by omega)
theorem mul_loop (l : List Int) (hl : l.length < 1000) : ∀ (d j k : Nat) (s : Int), j + d = l.length → d < k → 1 ≤ s → s ≤ 1125899906842624 → zeroIn (l.drop j) = false → ratio_Mul.lo0 k l s j = some (low (s * prodv (l.drop j))) := by
  intro d
  induction d with
  | zero =>
    intro j k s h hk h0 h1 hz
    obtain ⟨k, rfl⟩ : ∃ q, k = q + 1 := ⟨k - 1, by omega⟩
    rw [ratio_Mul.lo0, if_neg (by omega), List.drop_eq_nil_of_le (by omega)]
    simp only [prodv, low, Int.mul_one]; congr 1; omega
  | succ d ih =>
    intro j k s h hk h0 h1 hz
    obtain ⟨k, rfl⟩ : ∃ q, k = q + 1 := ⟨k - 1, by omega⟩
    have hb := cnt_bounds (rd l j)
    rw [drop_at l j (by omega)] at hz ⊢
    simp only [zeroIn, Bool.or_eq_false_iff, beq_eq_false_iff_ne] at hz
    have hc : 1 ≤ cnt (rd l j) := by omega
    have hp := prodv_pos _ hz.2
    have hsc : 1 * 1 ≤ s * cnt (rd l j) := Int.mul_le_mul h0 hc (by omega) (by omega)
    rw [ratio_Mul.lo0, if_pos (by omega), if_pos (by omega), counts_eq, next_at j (by omega)]
    simp only [Option.bind_some]
    rw [if_neg (by omega)]
    have hst := mul_step (s := s) hc
    have e := low_mul (s := s * cnt (rd l j)) (by omega) hp
    simp only [prodv]
    rw [← Int.mul_assoc, ← e]
    by_cases h2 : s * cnt (rd l j) ≤ 1125899906842624
    · rw [if_pos (hst.2 h2), wrap64_id (by omega) (by omega), ih (j + 1) k _ (by omega) (by omega) (by omega) (by omega) hz.2]
      rw [show low (s * cnt (rd l j)) = s * cnt (rd l j) by unfold low; omega]
    · rw [if_neg (fun h => h2 (hst.1 h)), ih (j + 1) k _ (by omega) (by omega) (by omega) (by omega) hz.2]
      rw [show low (s * cnt (rd l j)) = 1125899906842624 by unfold low; omega]
theorem zero_eq (n : Int) : ratio_zero.f n = some (cnt n == 0) := by
  unfold ratio_zero.f; rw [counts_eq]; rfl
theorem idx_loop (l : List Int) (hl : l.length < 1000) : ∀ (d j k : Nat), j + d = l.length → d < k →
    (zeroIn (l.drop j) = false ∧ slices_IndexFunc_int_int.lo0 k l j = some (.out ())) ∨ (zeroIn (l.drop j) = true ∧ ∃ i : Int, 0 ≤ i ∧ slices_IndexFunc_int_int.lo0 k l j = some (.ret i)) := by
  intro d
  induction d with
  | zero =>
    intro j k h hk
    obtain ⟨k, rfl⟩ : ∃ q, k = q + 1 := ⟨k - 1, by omega⟩
    rw [slices_IndexFunc_int_int.lo0, if_neg (by omega), List.drop_eq_nil_of_le (by omega)]
    exact .inl ⟨rfl, rfl⟩
  | succ d ih =>
    intro j k h hk
    obtain ⟨k, rfl⟩ : ∃ q, k = q + 1 := ⟨k - 1, by omega⟩
    rw [drop_at l j (by omega), slices_IndexFunc_int_int.lo0, if_pos (by omega), if_pos (by omega), zero_eq, next_at j (by omega)]
    simp only [Option.bind_some, zeroIn]
    cases hc : cnt (rd l j) == 0
    · simpa using ih (j + 1) k (by omega) (by omega)
    · right; simp
theorem contains_eq (k : Nat) (hk : 200 ≤ k) (l : List Int) (hl : l.length < 150) : slices_ContainsFunc_int_int.f k l = some (zeroIn l) := by
  unfold slices_ContainsFunc_int_int.f slices_IndexFunc_int_int.f
  have := idx_loop l (by omega) l.length 0 k (by omega) (by omega)
  rw [show ((0 : Nat) : Int) = 0 from rfl] at this
  rcases this with ⟨h1, h2⟩ | ⟨h1, i, h0, h2⟩
  · rw [List.drop_zero] at h1; simp [h1, h2, Lp.elim]
  · rw [List.drop_zero] at h1; simp [h1, h2, Lp.elim, h0]
theorem mul_eq (k : Nat) (hk : 200 ≤ k) (l : List Int) (hl : l.length < 150) : ratio_Mul.f k l = some (mulv l) := by
  unfold ratio_Mul.f mulv
  rw [contains_eq k hk l hl]
  simp only [Option.bind_some]
  cases hz : zeroIn l
  · have := mul_loop l (by omega) l.length 0 k 1 (by omega) (by omega) (by omega) (by omega) (by simpa using hz)
    rw [show ((0 : Nat) : Int) = 0 from rfl] at this
    rw [this]
    simp
  · simp
theorem mul2 (k : Nat) (hk : 200 ≤ k) {a b : Int} (ha : 0 ≤ a) (ha' : a ≤ 1125899906842624) (hb : 0 ≤ b) (hb' : b ≤ 1125899906842624) (h : a * b ≤ 1125899906842624) : ratio_Mul.f k [a, b] = some (a * b) := by
  rw [mul_eq k hk _ (by simp)]
  congr 1
  unfold mulv
  simp only [zeroIn, prodv, cnt_id ha ha', cnt_id hb hb', Int.mul_one, Bool.or_false, Bool.or_eq_true, beq_iff_eq]
  by_cases h0 : a = 0 ∨ b = 0
  · rw [if_pos h0]
    rcases h0 with rfl | rfl <;> simp
  · rw [if_neg h0]; unfold low; omega
theorem add2 (k : Nat) (hk : 200 ≤ k) {a b : Int} (ha : 0 ≤ a) (hb : 0 ≤ b) (h : a + b ≤ 1125899906842624) : ratio_Add.f k [a, b] = some (a + b) := by
  rw [add_eq k hk _ (by simp)]
  congr 1
  unfold addv
  simp only [sumv, cnt_id ha (by omega), cnt_id hb (by omega)]
  unfold low; omega
theorem add3 (k : Nat) (hk : 200 ≤ k) {a b c : Int} (ha : 0 ≤ a) (hb : 0 ≤ b) (hc : 0 ≤ c) (h : a + b + c ≤ 1125899906842624) : ratio_Add.f k [a, b, c] = some (a + b + c) := by
  rw [add_eq k hk _ (by simp)]
  congr 1
  unfold addv
  simp only [sumv, cnt_id ha (by omega), cnt_id hb (by omega), cnt_id hc (by omega)]
  unfold low; omega
def ceilv (a b : Int) : Int := (a + b - 1) / b
theorem ceil_spec {x y : Int} (hy : 1 ≤ y) : ceilv x y * y - y < x ∧ x ≤ ceilv x y * y := by
  have e := Int.mul_ediv_add_emod (x + y - 1) y
  have h0 := Int.emod_nonneg (x + y - 1) (show y ≠ 0 by omega)
  have h1 := Int.emod_lt_of_pos (x + y - 1) (show 0 < y by omega)
  have hL : ceilv x y = (x + y - 1) / y := rfl
  rw [← hL, Int.mul_comm] at e
  omega
theorem ceil_bounds {x y : Int} (hx : 0 ≤ x) (hy : 1 ≤ y) : 0 ≤ ceilv x y ∧ ceilv x y ≤ x := by
  have hs := ceil_spec (x := x) hy
  constructor
  · exact Int.ediv_nonneg (by omega) (by omega)
  · rcases Int.lt_or_le x (ceilv x y) with h | h
    · have h1 : x * 1 ≤ x * y := Int.mul_le_mul_of_nonneg_left hy hx
      have h2 : (x + 1) * y ≤ ceilv x y * y := Int.mul_le_mul_of_nonneg_right (by omega) (by omega)
      rw [Int.add_mul] at h2
      omega
    · exact h
theorem ceil_le {x y L : Int} (hy : 1 ≤ y) (h : x ≤ L * y) : ceilv x y ≤ L := by
  have hs := ceil_spec (x := x) hy
  have : (ceilv x y - 1) * y < L * y := by rw [Int.sub_mul]; omega
  have := Int.lt_of_mul_lt_mul_right this (by omega)
  omega
theorem upc (a b : Int) (ha : 0 ≤ a) (ha' : a ≤ 1125899906842624) (hb : 1 ≤ b) (hb' : b ≤ 1125899906842624) : ratio_Up.f a b = some (ceilv a b) := by
  rw [up_eq]
  congr 1
  unfold upv ceilv byv
  rw [cnt_id ha ha', cnt_id (n := b) (by omega) hb', show max 1 b = b by omega]
/-! ### the plan -/
def mayv (N W R K : Int) : Prop := 1 ≤ N ∧ N ≤ 1048576 ∧ 16 ≤ W ∧ W ≤ 256 ∧ 1 ≤ R ∧ R ≤ 4096 ∧ 1 ≤ K ∧ K ≤ 65536 ∧ N * W ≤ 4194304
instance (N W R K : Int) : Decidable (mayv N W R K) := by unfold mayv; infer_instance
theorem nw_small {N W : Int} (h1 : 1 ≤ N) (h2 : N ≤ 1048576) (h3 : 16 ≤ W) (h4 : W ≤ 256) : 16 ≤ N * W ∧ N * W ≤ 268435456 := by
  have a : 1 * 16 ≤ N * W := Int.mul_le_mul h1 h3 (by omega) (by omega)
  have b : N * W ≤ 1048576 * 256 := Int.mul_le_mul h2 h4 (by omega) (by omega)
  omega
theorem within_eq (n lo hi : Int) (_ : lo ≤ hi) : plan_within.f n lo hi = some (decide (lo ≤ n ∧ n ≤ hi)) := by
  unfold plan_within.f
  rw [clamp_eq]
  simp only [Option.bind_some]
  congr 1
  rw [Bool.eq_iff_iff, beq_iff_eq, decide_eq_true_eq]
  by_cases h1 : n > hi
  · rw [if_pos h1]; omega
  · rw [if_neg h1]
    by_cases h2 : n < lo
    · rw [if_pos h2]; omega
    · rw [if_neg h2]; omega
theorem check_eq (N W R K : Int) : plan_Check.f N W R K = some (if mayv N W R K then 0 else 1) := by
  unfold plan_Check.f
  simp only [within_eq _ 1 1048576 (by decide), within_eq _ 16 256 (by decide), within_eq _ 1 4096 (by decide), within_eq _ 1 65536 (by decide), Option.bind_some, decide_eq_true_eq]
  by_cases h1 : 1 ≤ N ∧ N ≤ 1048576
  · rw [if_pos h1]
    by_cases h2 : 16 ≤ W ∧ W ≤ 256
    · rw [if_pos h2]
      have := nw_small h1.1 h1.2 h2.1 h2.2
      rw [wrap64_id (by omega) (by omega)]
      by_cases h3 : 1 ≤ R ∧ R ≤ 4096
      · rw [if_pos h3]
        by_cases h4 : 1 ≤ K ∧ K ≤ 65536
        · rw [if_pos h4]
          by_cases h5 : N * W ≤ 4194304
          · rw [if_pos h5, if_pos (show mayv N W R K by unfold mayv; omega)]
          · rw [if_neg h5, if_neg (show ¬ mayv N W R K by unfold mayv; omega)]
        · rw [if_neg h4, if_neg (show ¬ mayv N W R K by unfold mayv; omega)]
      · rw [if_neg h3, if_neg (show ¬ mayv N W R K by unfold mayv; omega)]
    · rw [if_neg h2, if_neg (show ¬ mayv N W R K by unfold mayv; omega)]
  · rw [if_neg h1, if_neg (show ¬ mayv N W R K by unfold mayv; omega)]
def drainv (N W : Int) : Int := N * (W + 1)
def epochv (N W : Int) : Int := 3 * drainv N W + 4
def lagv (N W K : Int) : Int := 2 * ceilv (epochv N W) K + 2 * (W - 7)
def settlev (N W K : Int) : Int := ceilv (epochv N W + epochv N W + drainv N W) K + 2
def ofv (N W R K : Int) : Int × Int × Int × Int × Int × Int × Int × Int × Int :=
  if mayv N W R K then (24 + R + N * W, W - 8, W - 7, (W - 8) * (W - 1), epochv N W, drainv N W, lagv N W K, settlev N W K, 0) else (0, 0, 0, 0, 0, 0, 0, 0, 1)
theorem drain_bounds {N W R K : Int} (h : mayv N W R K) : 17 ≤ drainv N W ∧ drainv N W ≤ 5242880 ∧ drainv N W = N * W + N := by
  obtain ⟨a, b, c, d, _, _, _, _, e⟩ := h
  have := nw_small a b c d
  have e : drainv N W = N * W + N := by unfold drainv; rw [Int.mul_add]; omega
  omega
theorem of_eq (k : Nat) (hk : 200 ≤ k) (N W R K : Int) : plan_Of.f k N W R K = some (ofv N W R K) := by
  unfold plan_Of.f ofv
  rw [check_eq]
  simp only [Option.bind_some]
  by_cases h : mayv N W R K
  · simp only [if_pos h]
    rw [if_pos trivial]
    have hd := drain_bounds h
    obtain ⟨a, b, c, d, e, f, g, i, j⟩ := h
    have hs := nw_small a b c d
    have hf : (W - 8) * (W - 1) ≤ 248 * 255 := Int.mul_le_mul (by omega) (by omega) (by omega) (by omega)
    have hdr : N * (W + 1) = drainv N W := rfl
    have hep : 3 * drainv N W + 4 = epochv N W := rfl
    rw [wrap64_id (n := W - 8) (by omega) (by omega), wrap64_id (n := W - 1) (by omega) (by omega), wrap64_id (n := W + 1) (by omega) (by omega), wrap64_id (n := W - 8 + 1) (by omega) (by omega)]
    have c1 := ceil_bounds (x := epochv N W) (y := K) (by omega) g
    have c2 := ceil_bounds (x := epochv N W + epochv N W + drainv N W) (y := K) (by omega) g
    rw [mul2 k hk (a := N) (b := W) (by omega) (by omega) (by omega) (by omega) (by omega)]
    simp only [Option.bind_some]
    rw [add3 k hk (by omega) (by omega) (by omega) (by omega)]
    simp only [Option.bind_some]
    rw [mul2 k hk (a := W - 8) (b := W - 1) (by omega) (by omega) (by omega) (by omega) (by omega)]
    simp only [Option.bind_some]
    rw [mul2 k hk (a := N) (b := W + 1) (by omega) (by omega) (by omega) (by omega) (by omega), hdr]
    simp only [Option.bind_some]
    rw [mul2 k hk (a := 3) (b := drainv N W) (by omega) (by omega) (by omega) (by omega) (by omega)]
    simp only [Option.bind_some]
    rw [add2 k hk (by omega) (by omega) (by omega), hep]
    simp only [Option.bind_some]
    rw [upc _ _ (by omega) (by omega) g (by omega)]
    simp only [Option.bind_some]
    rw [mul2 k hk (a := 2) (b := ceilv (epochv N W) K) (by omega) (by omega) (by omega) (by omega) (by omega)]
    simp only [Option.bind_some]
    rw [show W - 8 + 1 = W - 7 by omega, mul2 k hk (a := 2) (b := W - 7) (by omega) (by omega) (by omega) (by omega) (by omega)]
    simp only [Option.bind_some]
    rw [add2 k hk (by omega) (by omega) (by omega)]
    simp only [Option.bind_some]
    rw [add3 k hk (by omega) (by omega) (by omega) (by omega)]
    simp only [Option.bind_some]
    rw [upc _ _ (by omega) (by omega) g (by omega)]
    simp only [Option.bind_some]
    rw [add2 k hk (by omega) (by omega) (by omega)]
    rfl
  · simp only [if_neg h]
    rw [if_neg (by decide)]
def pausev (N W R K kind blocks : Int) : Int :=
  if mayv N W R K ∧ 1 ≤ kind ∧ kind ≤ 10 then (if kind = 1 then 512 + max 0 (min blocks (W - 7)) * (256 + 100 * (W + K)) else if kind = 10 then 256 + 200 * K else 512) else 0
theorem clamp0 (n hi : Int) (h : 0 ≤ hi) : ratio_Clamp.f n 0 hi = some (max 0 (min n hi)) := by
  rw [clamp_eq]; congr 1
  by_cases h1 : n > hi
  · rw [if_pos h1]; omega
  · rw [if_neg h1]
    by_cases h2 : n < 0
    · rw [if_pos h2]; omega
    · rw [if_neg h2]; omega
theorem alloc_bounds {W K b : Int} (c : 16 ≤ W) (d : W ≤ 256) (g : 1 ≤ K) (i : K ≤ 65536) (h0 : 0 ≤ b) (h1 : b ≤ W - 7) : 0 ≤ b * (256 + 100 * (W + K)) ∧ b * (256 + 100 * (W + K)) ≤ 249 * 6579456 :=
  ⟨Int.mul_nonneg h0 (by omega), Int.mul_le_mul (by omega) (by omega) (by omega) (by omega)⟩
theorem pause_eq (k : Nat) (hk : 200 ≤ k) (N W R K kind blocks : Int) : plan_Pause.f k N W R K kind blocks = some (pausev N W R K kind blocks) := by
  unfold plan_Pause.f pausev
  rw [of_eq k hk, within_eq _ 1 10 (by decide)]
  simp only [Option.bind_some, decide_eq_true_eq]
  by_cases h : mayv N W R K
  · simp only [ofv, if_pos h]
    obtain ⟨a, b, c, d, e, f, g, i, j⟩ := id h
    rw [if_pos trivial]
    by_cases hr : 1 ≤ kind ∧ kind ≤ 10
    · rw [if_pos hr, if_pos (show mayv N W R K ∧ 1 ≤ kind ∧ kind ≤ 10 from ⟨h, hr⟩)]
      by_cases h1 : kind = 1
      · rw [if_pos h1, if_pos h1, clamp0 _ _ (by omega)]
        have hb := alloc_bounds (b := max 0 (min blocks (W - 7))) c d g i (by omega) (by omega)
        simp only [Option.bind_some]
        rw [wrap64_id (n := W + K) (by omega) (by omega), wrap64_id (n := 100 * (W + K)) (by omega) (by omega), wrap64_id (n := 256 + 100 * (W + K)) (by omega) (by omega)]
        generalize max 0 (min blocks (W - 7)) = m at *
        have hm : m ≤ 1125899906842624 ∧ 0 ≤ m := by
          rcases Int.lt_or_le m 0 with h | h
          · have : m * (256 + 100 * (W + K)) < 0 := Int.mul_neg_of_neg_of_pos h (by omega); omega
          · have : m * 1 ≤ m * (256 + 100 * (W + K)) := Int.mul_le_mul_of_nonneg_left (by omega) h; omega
        rw [mul2 k hk (a := m) hm.2 hm.1 (by omega) (by omega) (by omega)]
        simp only [Option.bind_some]
        rw [add2 k hk (by omega) (by omega) (by omega)]
        rfl
      · rw [if_neg h1, if_neg h1]
        by_cases h2 : kind = 10
        · rw [if_pos h2, if_pos h2, mul2 k hk (by omega) (by omega) (by omega) (by omega) (by omega)]
          simp only [Option.bind_some]
          rw [add2 k hk (by omega) (by omega) (by omega)]
          rfl
        · rw [if_neg h2, if_neg h2]
    · rw [if_neg hr, if_neg (show ¬ (mayv N W R K ∧ 1 ≤ kind ∧ kind ≤ 10) from fun x => hr x.2)]
  · simp only [ofv, if_neg h]
    rw [if_neg (by decide), if_neg (fun x => h x.1)]
theorem ceil_mono {x y z : Int} (hx : 0 ≤ x) (hy : 1 ≤ y) (h : y ≤ z) : ceilv x z ≤ ceilv x y := by
  have a := ceil_spec (x := x) hy
  have b := ceil_bounds hx hy
  have : ceilv x y * y ≤ ceilv x y * z := Int.mul_le_mul_of_nonneg_left h b.1
  exact ceil_le (by omega) (by omega)
theorem begun_eq : quitrentlaw31_begun.f 300 = some true := by decide +kernel
theorem may_k {N W R K : Int} (h : mayv N W R K) (L : Int) (h1 : 1 ≤ L) (h2 : L ≤ 65536) : mayv N W R L := by
  obtain ⟨a, b, c, d, e, f, _, _, j⟩ := h
  exact ⟨a, b, c, d, e, f, h1, h2, j⟩
theorem may_eq (N W R K : Int) : tune_may.f N W R K = some (decide (mayv N W R K)) := by
  unfold tune_may.f
  rw [check_eq]
  simp only [Option.bind_some]
  by_cases h : mayv N W R K
  · rw [if_pos h]; simp [h]
  · rw [if_neg h]; simp [h]
def sparev (N W R K : Int) : Int := if mayv N W R K then max 0 (N - lagv N W K) else 0
theorem lag_bounds {N W R K : Int} (h : mayv N W R K) : 0 ≤ lagv N W K ∧ lagv N W K ≤ 100000000 := by
  have hd := drain_bounds h
  obtain ⟨_, _, c, d, _, _, g, i, _⟩ := h
  have hep : epochv N W = 3 * drainv N W + 4 := rfl
  have := ceil_bounds (x := epochv N W) (y := K) (by omega) g
  unfold lagv
  omega
theorem spare_eq (k : Nat) (hk : 200 ≤ k) (N W R K : Int) : twin_Spare.f k N W R K = some (sparev N W R K) := by
  unfold twin_Spare.f sparev
  rw [of_eq k hk]
  simp only [Option.bind_some]
  by_cases h : mayv N W R K
  · simp only [ofv, if_pos h]
    have := lag_bounds h
    obtain ⟨a, b, _⟩ := h
    rw [if_pos trivial, wrap64_id (n := N - lagv N W K) (by omega) (by omega)]
    by_cases h2 : N - lagv N W K < 0
    · rw [if_pos h2]; congr 1; omega
    · rw [if_neg h2]; congr 1; omega
  · simp only [ofv, if_neg h]
    rw [if_neg (by decide)]
theorem spare_mono {N W R K L : Int} (h : mayv N W R K) (h' : mayv N W R L) (hKL : K ≤ L) : sparev N W R K ≤ sparev N W R L := by
  unfold sparev
  rw [if_pos h, if_pos h']
  have hd := drain_bounds h
  have hep : epochv N W = 3 * drainv N W + 4 := rfl
  have := ceil_mono (x := epochv N W) (y := K) (z := L) (by omega) h.2.2.2.2.2.2.1 hKL
  unfold lagv
  omega
def longestv (N W R K : Int) : Int := if mayv N W R K then max (512 + (W - 7) * (256 + 100 * (W + K))) (256 + 200 * K) else 0
theorem longest_loop {N W R K : Int} (h : mayv N W R K) (t : Int × Int × Int × Int × Int × Int × Int × Int × Int) : ∀ (d : Nat), d ≤ 8 → ∀ k : Nat, d + 202 ≤ k →
    tune_Longest.lo0 k N W R K t (512 + (W - 7) * (256 + 100 * (W + K))) (10 - (d : Int)) = some (max (512 + (W - 7) * (256 + 100 * (W + K))) (256 + 200 * K)) := by
  obtain ⟨a, b, c, d0, e, f, g, i, j⟩ := id h
  have hb := alloc_bounds (b := W - 7) c d0 g i (by omega) (by omega)
  intro d
  induction d with
  | zero =>
    intro _ k hk
    obtain ⟨k, rfl⟩ : ∃ q, k = q + 1 + 1 := ⟨k - 2, by omega⟩
    rw [tune_Longest.lo0, if_pos (by omega), pause_eq (k + 1) (by omega)]
    have hp : pausev N W R K (10 - ((0 : Nat) : Int)) t.2.2.1 = 256 + 200 * K := by
      unfold pausev; rw [if_pos (show mayv N W R K ∧ 1 ≤ 10 - ((0 : Nat) : Int) ∧ 10 - ((0 : Nat) : Int) ≤ 10 from ⟨h, by omega, by omega⟩), if_neg (by omega), if_pos (by omega)]
    simp only [Option.bind_some, hp]
    rw [wrap64_id (n := 10 - ((0 : Nat) : Int) + 1) (by omega) (by omega)]
    by_cases hx : 512 + (W - 7) * (256 + 100 * (W + K)) < 256 + 200 * K
    · rw [if_pos hx, tune_Longest.lo0, if_neg (by omega)]; congr 1; omega
    · rw [if_neg hx, tune_Longest.lo0, if_neg (by omega)]; congr 1; omega
  | succ d ih =>
    intro hd k hk
    obtain ⟨k, rfl⟩ : ∃ q, k = q + 1 := ⟨k - 1, by omega⟩
    rw [tune_Longest.lo0, if_pos (by omega), pause_eq k (by omega)]
    have hp : pausev N W R K (10 - ((d + 1 : Nat) : Int)) t.2.2.1 = 512 := by
      unfold pausev; rw [if_pos (show mayv N W R K ∧ 1 ≤ 10 - ((d + 1 : Nat) : Int) ∧ 10 - ((d + 1 : Nat) : Int) ≤ 10 from ⟨h, by omega, by omega⟩), if_neg (by omega), if_neg (by omega)]
    simp only [Option.bind_some, hp]
    rw [if_neg (by omega), wrap64_id (by omega) (by omega), show 10 - ((d + 1 : Nat) : Int) + 1 = 10 - (d : Int) by omega]
    exact ih (by omega) k (by omega)
theorem longest_eq (k : Nat) (hk : 220 ≤ k) (N W R K : Int) : tune_Longest.f k N W R K = some (longestv N W R K) := by
  unfold tune_Longest.f longestv
  rw [of_eq k (by omega)]
  simp only [Option.bind_some]
  by_cases h : mayv N W R K
  · simp only [ofv, if_pos h]
    rw [if_pos trivial]
    obtain ⟨a, b, c, d0, e, f, g, i, j⟩ := id h
    have hb := alloc_bounds (b := W - 7) c d0 g i (by omega) (by omega)
    obtain ⟨k, rfl⟩ : ∃ q, k = q + 1 := ⟨k - 1, by omega⟩
    rw [tune_Longest.lo0, if_pos (by omega), pause_eq k (by omega)]
    have hp : pausev N W R K 1 (W - 7) = 512 + (W - 7) * (256 + 100 * (W + K)) := by
      unfold pausev; rw [if_pos (show mayv N W R K ∧ 1 ≤ (1 : Int) ∧ (1 : Int) ≤ 10 from ⟨h, by omega, by omega⟩), if_pos rfl, show max 0 (min (W - 7) (W - 7)) = W - 7 by omega]
    simp only [Option.bind_some, hp]
    rw [if_pos (by omega), wrap64_id (by omega) (by omega)]
    have := longest_loop h (24 + R + N * W, W - 8, W - 7, (W - 8) * (W - 1), epochv N W, drainv N W, lagv N W K, settlev N W K, 0) 8 (by omega) k (by omega)
    rw [show (10 : Int) - ((8 : Nat) : Int) = 1 + 1 by omega] at this
    rw [this]
    rfl
  · simp only [ofv, if_neg h]
    rw [if_neg (by decide)]
theorem longest_mono {N W R K L : Int} (h : mayv N W R K) (h' : mayv N W R L) (hKL : K ≤ L) : longestv N W R K ≤ longestv N W R L := by
  unfold longestv
  rw [if_pos h, if_pos h']
  have := Int.mul_le_mul_of_nonneg_left (show 256 + 100 * (W + K) ≤ 256 + 100 * (W + L) by omega) (show 0 ≤ W - 7 by have := h.2.2.1; omega)
  omega
theorem fits_eq (k : Nat) (hk : 220 ≤ k) (N W R K live pause : Int) : tune_Fits.f k N W R K live pause = some (decide (mayv N W R K ∧ live ≤ sparev N W R K ∧ longestv N W R K ≤ pause)) := by
  unfold tune_Fits.f
  rw [may_eq, spare_eq k (by omega), longest_eq k hk]
  simp only [Option.bind_some, decide_eq_true_eq]
  by_cases h : mayv N W R K
  · rw [if_pos h]
    by_cases h1 : sparev N W R K ≥ live
    · rw [if_pos h1]; congr 1; exact decide_eq_decide.2 ⟨fun x => ⟨h, h1, x⟩, fun x => x.2.2⟩
    · rw [if_neg h1]; congr 1; exact (decide_eq_false (fun x => h1 x.2.1)).symm
  · rw [if_neg h]; congr 1; exact (decide_eq_false (fun x => h x.1)).symm
theorem mid {x y : Int} (h0 : 0 ≤ x) (h1 : x ≤ 65536) (h2 : 0 ≤ y) (h3 : y ≤ 65536) : wrap64 ((IntKind.u64.wrap (wrap64 (x + y))) / 2) = (x + y) / 2 := by
  rw [wrap64_id (n := x + y) (by omega) (by omega)]
  have : IntKind.u64.wrap (x + y) = x + y := by rw [IntKind.wrap_u64]; omega
  rw [this, wrap64_id (by omega) (by omega)]
theorem least_loop (N W R K live : Int) (h : mayv N W R 1) : ∀ (d : Nat) (k : Nat) (i j : Int), 221 + d ≤ k → 0 ≤ i → i ≤ j → j ≤ 65536 → j - i < (2 : Int) ^ d →
    (∀ x, 0 ≤ x → x < i → ¬ live ≤ sparev N W R (x + 1)) → (∀ x, j ≤ x → x < 65536 → live ≤ sparev N W R (x + 1)) →
    ∃ r, sort_Search.lo0 k N W R K live i j = some r ∧ 0 ≤ r ∧ r ≤ 65536 ∧ (∀ x, 0 ≤ x → x < r → ¬ live ≤ sparev N W R (x + 1)) ∧ (∀ x, r ≤ x → x < 65536 → live ≤ sparev N W R (x + 1)) := by
  intro d
  induction d with
  | zero =>
    intro k i j hk h0 h1 h2 h3 hl hr
    obtain ⟨k, rfl⟩ : ∃ q, k = q + 1 := ⟨k - 1, by omega⟩
    have : (2 : Int) ^ 0 = 1 := rfl
    obtain rfl : i = j := by omega
    rw [sort_Search.lo0, if_neg (by omega)]
    exact ⟨i, rfl, h0, h2, hl, hr⟩
  | succ d ih =>
    intro k i j hk h0 h1 h2 h3 hl hr
    obtain ⟨k, rfl⟩ : ∃ q, k = q + 1 := ⟨k - 1, by omega⟩
    rw [sort_Search.lo0]
    by_cases hij : i < j
    · have hp : (2 : Int) ^ (d + 1) = 2 ^ d * 2 := Int.pow_succ 2 d
      rw [if_pos hij, mid h0 (by omega) (by omega) h2, wrap64_id (n := (i + j) / 2 + 1) (by omega) (by omega)]
      unfold tune_LeastK_1.f tune_with.f
      simp only [Option.bind_some]
      rw [wrap64_id (n := (i + j) / 2 + 1) (by omega) (by omega), spare_eq k (by omega)]
      simp only [Option.bind_some, decide_eq_true_eq]
      by_cases hm : sparev N W R ((i + j) / 2 + 1) ≥ live
      · rw [if_pos hm]
        refine ih k i ((i + j) / 2) (by omega) h0 (by omega) (by omega) (by omega) hl (fun x hx hx' => ?_)
        have := spare_mono (may_k h ((i + j) / 2 + 1) (by omega) (by omega)) (may_k h (x + 1) (by omega) (by omega)) (by omega)
        omega
      · rw [if_neg hm]
        refine ih k ((i + j) / 2 + 1) j (by omega) (by omega) (by omega) h2 (by omega) (fun x hx hx' hc => ?_) hr
        have := spare_mono (may_k h (x + 1) (by omega) (by omega)) (may_k h ((i + j) / 2 + 1) (by omega) (by omega)) (by omega)
        omega
    · rw [if_neg hij]
      obtain rfl : i = j := by omega
      exact ⟨i, rfl, h0, h2, hl, hr⟩
theorem most_loop (N W R K pause : Int) (h : mayv N W R 1) : ∀ (d : Nat) (k : Nat) (i j : Int), 241 + d ≤ k → 0 ≤ i → i ≤ j → j ≤ 65536 → j - i < (2 : Int) ^ d →
    (∀ x, 0 ≤ x → x < i → longestv N W R (x + 1) ≤ pause) → (∀ x, j ≤ x → x < 65536 → ¬ longestv N W R (x + 1) ≤ pause) →
    ∃ r, sort_Search_1.lo0 k N W R K pause i j = some r ∧ 0 ≤ r ∧ r ≤ 65536 ∧ (∀ x, 0 ≤ x → x < r → longestv N W R (x + 1) ≤ pause) ∧ (∀ x, r ≤ x → x < 65536 → ¬ longestv N W R (x + 1) ≤ pause) := by
  intro d
  induction d with
  | zero =>
    intro k i j hk h0 h1 h2 h3 hl hr
    obtain ⟨k, rfl⟩ : ∃ q, k = q + 1 := ⟨k - 1, by omega⟩
    have : (2 : Int) ^ 0 = 1 := rfl
    obtain rfl : i = j := by omega
    rw [sort_Search_1.lo0, if_neg (by omega)]
    exact ⟨i, rfl, h0, h2, hl, hr⟩
  | succ d ih =>
    intro k i j hk h0 h1 h2 h3 hl hr
    obtain ⟨k, rfl⟩ : ∃ q, k = q + 1 := ⟨k - 1, by omega⟩
    rw [sort_Search_1.lo0]
    by_cases hij : i < j
    · have hp : (2 : Int) ^ (d + 1) = 2 ^ d * 2 := Int.pow_succ 2 d
      rw [if_pos hij, mid h0 (by omega) (by omega) h2, wrap64_id (n := (i + j) / 2 + 1) (by omega) (by omega)]
      unfold tune_MostK_1.f tune_with.f
      simp only [Option.bind_some]
      rw [wrap64_id (n := (i + j) / 2 + 1) (by omega) (by omega), longest_eq k (by omega)]
      simp only [Option.bind_some, decide_eq_true_eq]
      by_cases hm : longestv N W R ((i + j) / 2 + 1) > pause
      · rw [if_pos hm]
        refine ih k i ((i + j) / 2) (by omega) h0 (by omega) (by omega) (by omega) hl (fun x hx hx' => ?_)
        have := longest_mono (may_k h ((i + j) / 2 + 1) (by omega) (by omega)) (may_k h (x + 1) (by omega) (by omega)) (by omega)
        omega
      · rw [if_neg hm]
        refine ih k ((i + j) / 2 + 1) j (by omega) (by omega) (by omega) h2 (by omega) (fun x hx hx' => ?_) hr
        have := longest_mono (may_k h (x + 1) (by omega) (by omega)) (may_k h ((i + j) / 2 + 1) (by omega) (by omega)) (by omega)
        omega
    · rw [if_neg hij]
      obtain rfl : i = j := by omega
      exact ⟨i, rfl, h0, h2, hl, hr⟩
theorem leastK_eq (N W R K live : Int) (h : mayv N W R 1) : ∃ r, tune_LeastK.f 300 N W R K live = some (if r < 65536 then (1 + r, true) else (0, false)) ∧ 0 ≤ r ∧ r ≤ 65536 ∧ (∀ x, 0 ≤ x → x < r → ¬ live ≤ sparev N W R (x + 1)) ∧ (∀ x, r ≤ x → x < 65536 → live ≤ sparev N W R (x + 1)) := by
  obtain ⟨r, hr, h0, h1, h2, h3⟩ := least_loop N W R K live h 17 300 0 65536 (by omega) (by omega) (by omega) (by omega) (by decide) (fun x a b => by omega) (fun x a b => by omega)
  refine ⟨r, ?_, h0, h1, h2, h3⟩
  unfold tune_LeastK.f tune_with.f sort_Search.f
  simp only [Option.bind_some, may_eq, decide_eq_true_eq]
  rw [if_pos h, hr]
  simp only [Option.bind_some]
  rw [wrap64_id (n := 1 + r) (by omega) (by omega)]
  by_cases hh : r < 65536
  · rw [if_neg (by omega), if_pos hh]
  · rw [if_pos (by omega), if_neg hh]
theorem mostK_eq (N W R K pause : Int) (h : mayv N W R 1) : ∃ r, tune_MostK.f 300 N W R K pause = some (r, decide (r > 0)) ∧ 0 ≤ r ∧ r ≤ 65536 ∧ (∀ x, 0 ≤ x → x < r → longestv N W R (x + 1) ≤ pause) ∧ (∀ x, r ≤ x → x < 65536 → ¬ longestv N W R (x + 1) ≤ pause) := by
  obtain ⟨r, hr, h0, h1, h2, h3⟩ := most_loop N W R K pause h 17 300 0 65536 (by omega) (by omega) (by omega) (by omega) (by decide) (fun x a b => by omega) (fun x a b => by omega)
  refine ⟨r, ?_, h0, h1, h2, h3⟩
  unfold tune_MostK.f tune_with.f sort_Search_1.f
  simp only [Option.bind_some, may_eq, decide_eq_true_eq]
  rw [if_pos h, hr]
  rfl
theorem TuneChoose (a0 a1 a2 a3 a4 a5 a6 : Int) (_ : (Lit.int .i64 a0).wf = true) (_ : (Lit.int .i64 a1).wf = true) (_ : (Lit.int .i64 a2).wf = true) (_ : (Lit.int .i64 a3).wf = true) (_ : (Lit.int .i64 a4).wf = true) (_ : (Lit.int .i64 a5).wf = true) (_ : (Lit.int .i64 a6).wf = true) :
    ∃ k, quitrentlaw31_TuneChoose.f k a0 a1 a2 a3 a4 a5 a6 = some true := by
  refine ⟨300, ?_⟩
  unfold quitrentlaw31_TuneChoose.f tune_Choose.f
  rw [begun_eq]
  by_cases h : mayv a0 a1 a2 1
  · obtain ⟨r, hr, r0, r1, r2, r3⟩ := leastK_eq a0 a1 a2 a3 a4 h
    obtain ⟨m, hm, m0, m1, m2, m3⟩ := mostK_eq a0 a1 a2 a3 a5 h
    rw [hr, hm]
    simp only [tune_with.f, Option.bind_some, fits_eq 300 (by omega)]
    have hfit : ∀ K, (mayv a0 a1 a2 K ∧ a4 ≤ sparev a0 a1 a2 K ∧ longestv a0 a1 a2 K ≤ a5) ↔ (1 + r ≤ K ∧ K ≤ m) := fun K => by
      constructor
      · rintro ⟨x, y, z⟩
        have x1 : 1 ≤ K := x.2.2.2.2.2.2.1
        have x2 : K ≤ 65536 := x.2.2.2.2.2.2.2.1
        constructor
        · rcases Int.lt_or_le K (1 + r) with q | q
          · exact absurd (by rw [show K - 1 + 1 = K by omega]; exact y) (r2 (K - 1) (by omega) (by omega))
          · exact q
        · rcases Int.lt_or_le m K with q | q
          · exact absurd (by rw [show K - 1 + 1 = K by omega]; exact z) (m3 (K - 1) (by omega) (by omega))
          · exact q
      · rintro ⟨x, y⟩
        refine ⟨may_k h K (by omega) (by omega), ?_, ?_⟩
        · have := r3 (K - 1) (by omega) (by omega); rwa [show K - 1 + 1 = K by omega] at this
        · have := m2 (K - 1) (by omega) (by omega); rwa [show K - 1 + 1 = K by omega] at this
    by_cases hr' : r < 65536
    · simp only [if_pos hr']
      by_cases hm' : m > 0
      · by_cases hk : 1 + r ≤ m
        · by_cases q1 : 1 + r ≤ a6 <;> by_cases q2 : a6 ≤ m <;> simp [hfit, hm', hk, q1, q2]
        · have q : ∀ K, ¬ (1 + r ≤ K ∧ K ≤ m) := fun K => by omega
          by_cases q1 : 1 + r ≤ a6 <;> by_cases q2 : a6 ≤ m <;> simp [hfit, hm', hk, q1, q2] <;> omega
      · have q : ¬ (1 + r ≤ m) := by omega
        have q2 : ¬ (1 + r ≤ a6 ∧ a6 ≤ m) := by omega
        simp [hfit, hm', q, q2]
    · simp only [if_neg hr']
      have q2 : ¬ (1 + r ≤ a6 ∧ a6 ≤ m) := by omega
      simp [hfit, q2]
  · have hl : ∀ K, ¬ mayv a0 a1 a2 K := fun K x => h (may_k x 1 (by omega) (by omega))
    have e1 : tune_LeastK.f 300 a0 a1 a2 a3 a4 = some (0, false) := by
      unfold tune_LeastK.f tune_with.f; simp [may_eq, h]
    have e2 : tune_MostK.f 300 a0 a1 a2 a3 a5 = some (0, false) := by
      unfold tune_MostK.f tune_with.f; simp [may_eq, h]
    rw [e1, e2]
    simp [tune_with.f, fits_eq 300, hl]
end Go.Proofs.Ytgkpcboaiaiahab.V
