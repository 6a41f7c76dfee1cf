/- The laws of ratio on the plain functions. No condition. -/
import Derived.Test.YtgkpcboaiaiahaaMRatio
namespace Go.Proofs.Ytgkpcboaiaiahaa.V
open Go.RowKit Go.Proofs.Ytgkpcboaiaiahaa.C Go.Proofs.Ytgkpcboaiaiahaa.M Go.Proofs.YtgkpcboaiaiahaaW.PrintWords
theorem wrap64_id {n : Int} (h0 : -9223372036854775808 ≤ n) (h1 : n ≤ 9223372036854775807) : wrap64 n = n := by unfold wrap64; omega
/-- What a number counts as. -/
def cnt (n : Int) : Int := max 0 (min n 1125899906842624)
def byv (n : Int) : Int := max 1 (cnt n)
theorem cnt_bounds (n : Int) : 0 ≤ cnt n ∧ cnt n ≤ 1125899906842624 := by unfold cnt; omega
theorem byv_bounds (n : Int) : 1 ≤ byv n ∧ byv n ≤ 1125899906842624 := by have := cnt_bounds n; unfold byv; omega
theorem cnt_id {n : Int} (h : 0 ≤ n) (h' : n ≤ 1125899906842624) : cnt n = n := by unfold cnt; omega
theorem clamp_eq (n lo hi : Int) : ratio_Clamp.f n lo hi = some (if n > hi then hi else if n < lo then lo else n) := by
  unfold ratio_Clamp.f; split <;> (try split) <;> simp_all
theorem counts_eq (n : Int) : ratio_counts.f n = some (cnt n) := by
  unfold ratio_counts.f; rw [clamp_eq]; simp only [Option.bind_some, cnt]
  congr 1
  by_cases h1 : n > 1125899906842624
  · rw [if_pos h1]; omega
  · rw [if_neg h1]
    by_cases h2 : n < 0
    · rw [if_pos h2]; omega
    · rw [if_neg h2]; omega
theorem Counts_eq (n : Int) : quitrentref02_Counts.f n = some (cnt n) := by
  unfold quitrentref02_Counts.f cnt
  by_cases h1 : n < 0
  · rw [if_pos h1]; congr 1; omega
  · rw [if_neg h1]
    by_cases h2 : n > 1125899906842624
    · rw [if_pos h2]; congr 1; omega
    · rw [if_neg h2]; congr 1; omega
theorem by_eq (n : Int) : ratio_by.f n = some (byv n) := by
  unfold ratio_by.f byv; rw [counts_eq]; simp only [Option.bind_some]
  by_cases h : cnt n < 1
  · rw [if_pos h]; congr 1; omega
  · rw [if_neg h]; congr 1; omega
theorem By_eq (n : Int) : quitrentref02_By.f n = some (byv n) := by
  unfold quitrentref02_By.f byv; simp only [Counts_eq, Option.bind_some]
  have := cnt_bounds n
  by_cases h : cnt n = 0
  · rw [if_pos h]; congr 1; omega
  · rw [if_neg h]; congr 1; omega
theorem tdiv_pos {a b : Int} (h : 0 ≤ a) : Int.tdiv a b = a / b := Int.tdiv_eq_ediv_of_nonneg h
def downv (a b : Int) : Int := cnt a / byv b
def upv (a b : Int) : Int := (cnt a + byv b - 1) / byv b
theorem div_le {a b : Int} (h : 0 ≤ a) (hb : 1 ≤ b) : 0 ≤ a / b ∧ a / b ≤ a := ⟨Int.ediv_nonneg h (by omega), Int.ediv_le_self _ h⟩
theorem down_eq (a b : Int) : ratio_Down.f a b = some (downv a b) := by
  have ha := cnt_bounds a; have hb := byv_bounds b; have hd := div_le ha.1 hb.1
  unfold ratio_Down.f downv; simp only [counts_eq, by_eq, Option.bind_some]
  rw [if_neg (by omega), tdiv_pos ha.1, wrap64_id (by omega) (by omega)]
theorem Down_eq (a b : Int) : quitrentref02_Down.f a b = some (downv a b) := by
  have ha := cnt_bounds a; have hb := byv_bounds b; have hd := div_le ha.1 hb.1
  unfold quitrentref02_Down.f downv; simp only [Counts_eq, By_eq, Option.bind_some]
  rw [if_neg (by omega), tdiv_pos ha.1, wrap64_id (by omega) (by omega)]
theorem up_eq (a b : Int) : ratio_Up.f a b = some (upv a b) := by
  have ha := cnt_bounds a; have hb := byv_bounds b
  have hd := div_le (a := cnt a + byv b - 1) (by omega) hb.1
  unfold ratio_Up.f upv; simp only [counts_eq, by_eq, Option.bind_some]
  rw [if_neg (by omega), wrap64_id (n := cnt a + byv b) (by omega) (by omega), wrap64_id (n := cnt a + byv b - 1) (by omega) (by omega), tdiv_pos (by omega), wrap64_id (by omega) (by omega)]
theorem up_split {x y : Int} (hy : 1 ≤ y) : (x + y - 1) / y = if x % y > 0 then x / y + 1 else x / y := by
  have e := Int.mul_ediv_add_emod x y
  have h0 := Int.emod_nonneg x (show y ≠ 0 by omega)
  have h1 := Int.emod_lt_of_pos x (show 0 < y by omega)
  split
  · rw [Int.ediv_eq_iff_of_pos (by omega)]
    have : x / y * y = y * (x / y) := Int.mul_comm _ _
    constructor
    · rw [Int.add_mul]; omega
    · rw [Int.add_mul]; omega
  · rw [Int.ediv_eq_iff_of_pos (by omega)]
    have : x / y * y = y * (x / y) := Int.mul_comm _ _
    constructor <;> omega
theorem Up_eq (a b : Int) : quitrentref02_Up.f a b = some (upv a b) := by
  have ha := cnt_bounds a; have hb := byv_bounds b; have hd := div_le ha.1 hb.1
  unfold quitrentref02_Up.f upv; simp only [Counts_eq, By_eq, Down_eq, Option.bind_some]
  rw [if_neg (by omega), up_split hb.1, Int.tmod_eq_emod_of_nonneg ha.1]
  unfold downv
  split
  · rw [wrap64_id (by omega) (by omega)]
  · rfl
theorem begun_eq : quitrentlaw02_begun.f 200 = some true := by decide +kernel
theorem RatioShares (a0 a1 : Int) (_ : (Lit.int .i64 a0).wf = true) (_ : (Lit.int .i64 a1).wf = true) : ∃ k, quitrentlaw02_RatioShares.f k a0 a1 = some true := by
  refine ⟨200, ?_⟩
  unfold quitrentlaw02_RatioShares.f
  simp [begun_eq, down_eq, Down_eq, up_eq, Up_eq]

/-! ### lists -/
theorem rd_at (l : List Int) (j : Nat) (h : j < l.length) : rd l (j : Int) = l[j] := by
  simp [rd, List.getD_eq_getElem?_getD, List.getElem?_eq_getElem h]
theorem drop_at (l : List Int) (j : Nat) (h : j < l.length) : l.drop j = rd l (j : Int) :: l.drop (j + 1) := by
  rw [rd_at l j h]; exact List.drop_eq_getElem_cons h
theorem next_at (j : Nat) (h : j < 100000) : wrap64 ((j : Int) + 1) = ((j + 1 : Nat) : Int) := by
  rw [wrap64_id (by omega) (by omega)]; omega
def sumv : List Int → Int
  | [] => 0
  | n :: l => cnt n + sumv l
def prodv : List Int → Int
  | [] => 1
  | n :: l => cnt n * prodv l
def low (n : Int) : Int := min n 1125899906842624
def zeroIn : List Int → Bool
  | [] => false
  | n :: l => cnt n == 0 || zeroIn l
theorem sumv_nonneg : ∀ l, 0 ≤ sumv l
  | [] => Int.le_refl 0
  | n :: l => by have := sumv_nonneg l; have := cnt_bounds n; simp only [sumv]; omega
theorem prodv_pos : ∀ l, zeroIn l = false → 1 ≤ prodv l
  | [], _ => Int.le_refl 1
  | n :: l, h => by
    simp only [zeroIn, Bool.or_eq_false_iff, beq_eq_false_iff_ne] at h
    have h1 := prodv_pos l h.2
    have h2 := cnt_bounds n
    have h3 : 1 ≤ cnt n := by omega
    simp only [prodv]
    have := Int.mul_le_mul h3 h1 (by omega) (by omega)
    omega
theorem sumv_append (a b : List Int) : sumv (a ++ b) = sumv a + sumv b := by
  induction a with
  | nil => simp [sumv]
  | cons n a ih => simp only [List.cons_append, sumv, ih]; omega
theorem sumv_reverse (l : List Int) : sumv l.reverse = sumv l := by
  induction l with
  | nil => rfl
  | cons n l ih => simp only [List.reverse_cons, sumv_append, sumv, ih]; omega
theorem prodv_append (a b : List Int) : prodv (a ++ b) = prodv a * prodv b := by
  induction a with
  | nil => simp [prodv]
  | cons n a ih => simp only [List.cons_append, prodv, ih, Int.mul_assoc]
theorem prodv_reverse (l : List Int) : prodv l.reverse = prodv l := by
  induction l with
  | nil => rfl
  | cons n l ih => simp only [List.reverse_cons, prodv_append, prodv, ih, Int.mul_one]; exact Int.mul_comm _ _
theorem zeroIn_append (a b : List Int) : zeroIn (a ++ b) = (zeroIn a || zeroIn b) := by
  induction a with
  | nil => rfl
  | cons n a ih => simp only [List.cons_append, zeroIn, ih, Bool.or_assoc]
theorem zeroIn_reverse (l : List Int) : zeroIn l.reverse = zeroIn l := by
  induction l with
  | nil => rfl
  | cons n l ih => simp only [List.reverse_cons, zeroIn_append, zeroIn, ih, Bool.or_false]; exact Bool.or_comm _ _
def addv (l : List Int) : Int := low (sumv l)
def mulv (l : List Int) : Int := if zeroIn l = true then 0 else low (prodv l)
theorem low_bounds {n : Int} (h : 0 ≤ n) : 0 ≤ low n ∧ low n ≤ 1125899906842624 := by unfold low; omega
theorem add_loop (l : List Int) (hl : l.length < 1000) : ∀ (d j k : Nat) (s : Int), j + d = l.length → d < k → 0 ≤ s → s ≤ 1125899906842624 → ratio_Add.lo0 k l s j = some (low (s + sumv (l.drop j))) := by
  intro d
  induction d with
  | zero =>
    intro j k s h hk h0 h1
    obtain ⟨k, rfl⟩ : ∃ q, k = q + 1 := ⟨k - 1, by omega⟩
    rw [ratio_Add.lo0, if_neg (by omega), List.drop_eq_nil_of_le (by omega)]
    simp only [sumv, low]; congr 1; omega
  | succ d ih =>
    intro j k s h hk h0 h1
    obtain ⟨k, rfl⟩ : ∃ q, k = q + 1 := ⟨k - 1, by omega⟩
    have hc := cnt_bounds (rd l j)
    have hs := sumv_nonneg (l.drop (j + 1))
    rw [ratio_Add.lo0, if_pos (by omega), if_pos (by omega), counts_eq, next_at j (by omega)]
    simp only [Option.bind_some]
    rw [wrap64_id (by omega) (by omega), drop_at l j (by omega)]
    split
    · rw [ih (j + 1) k _ (by omega) (by omega) (by omega) (by omega)]
      simp only [sumv, low]
      congr 1
      omega
    · rw [ih (j + 1) k _ (by omega) (by omega) (by omega) (by omega)]
      simp only [sumv]
      congr 2
      omega
theorem add_eq (l : List Int) (hl : l.length < 150) : ratio_Add.f 200 l = some (addv l) := by
  unfold ratio_Add.f
  have := add_loop l (by omega) l.length 0 200 0 (by omega) (by omega) (by omega) (by omega)
  rw [show ((0 : Nat) : Int) = 0 from rfl] at this
  rw [this]
  simp [addv]
theorem Add_loop (l : List Int) (hl : l.length < 1000) : ∀ (d j k : Nat) (s : Int), j + d = l.length → d < k → 0 ≤ s → s ≤ 1125899906842624 → quitrentref02_Add.lo0 k l s j = some (low (s + sumv (l.drop j))) := by
  intro d
  induction d with
  | zero =>
    intro j k s h hk h0 h1
    obtain ⟨k, rfl⟩ : ∃ q, k = q + 1 := ⟨k - 1, by omega⟩
    rw [quitrentref02_Add.lo0, if_neg (by omega), List.drop_eq_nil_of_le (by omega)]
    simp only [sumv, low]; congr 1; omega
  | succ d ih =>
    intro j k s h hk h0 h1
    obtain ⟨k, rfl⟩ : ∃ q, k = q + 1 := ⟨k - 1, by omega⟩
    have hc := cnt_bounds (rd l j)
    have hs := sumv_nonneg (l.drop (j + 1))
    have hd := cnt_bounds (s + cnt (rd l j))
    rw [quitrentref02_Add.lo0, if_pos (by omega), if_pos (by omega), Counts_eq, next_at j (by omega)]
    simp only [Option.bind_some, Counts_eq]
    rw [wrap64_id (by omega) (by omega), drop_at l j (by omega), ih (j + 1) k _ (by omega) (by omega) (by omega) (by omega)]
    simp only [sumv, low]
    congr 1
    generalize cnt (rd l j) = c at *
    unfold cnt
    omega
theorem Add_eq (l : List Int) (hl : l.length < 150) : quitrentref02_Add.f 200 l = some (addv l) := by
  unfold quitrentref02_Add.f
  have := Add_loop l (by omega) l.length 0 200 0 (by omega) (by omega) (by omega) (by omega)
  rw [show ((0 : Nat) : Int) = 0 from rfl] at this
  rw [this]
  simp [addv]
theorem low_mul {s c : Int} (h0 : 0 ≤ s) (hc : 1 ≤ c) : low (low s * c) = low (s * c) := by
  unfold low
  by_cases h : s ≤ 1125899906842624
  · rw [show min s 1125899906842624 = s by omega]
  · rw [show min s 1125899906842624 = 1125899906842624 by omega]
    have h1 : 1125899906842624 * c ≤ s * c := Int.mul_le_mul_of_nonneg_right (by omega) (by omega)
    have h2 : 1125899906842624 * 1 ≤ 1125899906842624 * c := Int.mul_le_mul_of_nonneg_left hc (by omega)
    omega
theorem mul_step {s c : Int} (hc : 1 ≤ c) :
    (s ≤ wrap64 (Int.tdiv (1125899906842624 : Int) c)) ↔ s * c ≤ 1125899906842624 := by
  rw [tdiv_pos (by omega), wrap64_id (by have := div_le (a := 1125899906842624) (by omega) hc; omega) (by have := div_le (a := 1125899906842624) (by omega) hc; omega)]
  exact Int.le_ediv_iff_mul_le (by omega)
theorem mul_loop (l : List Int) (hl : l.length < 1000) : ∀ (d j k : Nat) (s : Int), j + d = l.length → d < k → 1 ≤ s → s ≤ 1125899906842624 → zeroIn (l.drop j) = false → ratio_Mul.lo0 k l s j = some (low (s * prodv (l.drop j))) := by
  intro d
  induction d with
  | zero =>
    intro j k s h hk h0 h1 hz
    obtain ⟨k, rfl⟩ : ∃ q, k = q + 1 := ⟨k - 1, by omega⟩
    rw [ratio_Mul.lo0, if_neg (by omega), List.drop_eq_nil_of_le (by omega)]
    simp only [prodv, low, Int.mul_one]; congr 1; omega
  | succ d ih =>
    intro j k s h hk h0 h1 hz
    obtain ⟨k, rfl⟩ : ∃ q, k = q + 1 := ⟨k - 1, by omega⟩
    have hb := cnt_bounds (rd l j)
    rw [drop_at l j (by omega)] at hz ⊢
    simp only [zeroIn, Bool.or_eq_false_iff, beq_eq_false_iff_ne] at hz
    have hc : 1 ≤ cnt (rd l j) := by omega
    have hp := prodv_pos _ hz.2
    have hsc : 1 * 1 ≤ s * cnt (rd l j) := Int.mul_le_mul h0 hc (by omega) (by omega)
    rw [ratio_Mul.lo0, if_pos (by omega), if_pos (by omega), counts_eq, next_at j (by omega)]
    simp only [Option.bind_some]
    rw [if_neg (by omega)]
    have hst := mul_step (s := s) hc
    have e := low_mul (s := s * cnt (rd l j)) (by omega) hp
    simp only [prodv]
    rw [← Int.mul_assoc, ← e]
    by_cases h2 : s * cnt (rd l j) ≤ 1125899906842624
    · rw [if_pos (hst.2 h2), wrap64_id (by omega) (by omega), ih (j + 1) k _ (by omega) (by omega) (by omega) (by omega) hz.2]
      rw [show low (s * cnt (rd l j)) = s * cnt (rd l j) by unfold low; omega]
    · rw [if_neg (fun h => h2 (hst.1 h)), ih (j + 1) k _ (by omega) (by omega) (by omega) (by omega) hz.2]
      rw [show low (s * cnt (rd l j)) = 1125899906842624 by unfold low; omega]
theorem zero_eq (n : Int) : ratio_zero.f n = some (cnt n == 0) := by
  unfold ratio_zero.f; rw [counts_eq]; rfl
theorem idx_loop (l : List Int) (hl : l.length < 1000) : ∀ (d j k : Nat), j + d = l.length → d < k →
    (zeroIn (l.drop j) = false ∧ slices_IndexFunc_int_int.lo0 k l j = some (.out ())) ∨ (zeroIn (l.drop j) = true ∧ ∃ i : Int, 0 ≤ i ∧ slices_IndexFunc_int_int.lo0 k l j = some (.ret i)) := by
  intro d
  induction d with
  | zero =>
    intro j k h hk
    obtain ⟨k, rfl⟩ : ∃ q, k = q + 1 := ⟨k - 1, by omega⟩
    rw [slices_IndexFunc_int_int.lo0, if_neg (by omega), List.drop_eq_nil_of_le (by omega)]
    exact .inl ⟨rfl, rfl⟩
  | succ d ih =>
    intro j k h hk
    obtain ⟨k, rfl⟩ : ∃ q, k = q + 1 := ⟨k - 1, by omega⟩
    rw [drop_at l j (by omega), slices_IndexFunc_int_int.lo0, if_pos (by omega), if_pos (by omega), zero_eq, next_at j (by omega)]
    simp only [Option.bind_some, zeroIn]
    cases hc : cnt (rd l j) == 0
    · simpa using ih (j + 1) k (by omega) (by omega)
    · right; simp
theorem contains_eq (l : List Int) (hl : l.length < 150) : slices_ContainsFunc_int_int.f 200 l = some (zeroIn l) := by
  unfold slices_ContainsFunc_int_int.f slices_IndexFunc_int_int.f
  have := idx_loop l (by omega) l.length 0 200 (by omega) (by omega)
  rw [show ((0 : Nat) : Int) = 0 from rfl] at this
  rcases this with ⟨h1, h2⟩ | ⟨h1, i, h0, h2⟩
  · rw [List.drop_zero] at h1; simp [h1, h2, Lp.elim]
  · rw [List.drop_zero] at h1; simp [h1, h2, Lp.elim, h0]
theorem mul_eq (l : List Int) (hl : l.length < 150) : ratio_Mul.f 200 l = some (mulv l) := by
  unfold ratio_Mul.f mulv
  rw [contains_eq l hl]
  simp only [Option.bind_some]
  cases hz : zeroIn l
  · have := mul_loop l (by omega) l.length 0 200 1 (by omega) (by omega) (by omega) (by omega) (by simpa using hz)
    rw [show ((0 : Nat) : Int) = 0 from rfl] at this
    rw [this]
    simp
  · simp
theorem Mul_loop0 (l : List Int) (hl : l.length < 1000) : ∀ (d j k : Nat), j + d = l.length → d < k →
    quitrentref02_Mul.lo0 k l j = some (if zeroIn (l.drop j) = true then .ret 0 else .out ()) := by
  intro d
  induction d with
  | zero =>
    intro j k h hk
    obtain ⟨k, rfl⟩ : ∃ q, k = q + 1 := ⟨k - 1, by omega⟩
    rw [quitrentref02_Mul.lo0, if_neg (by omega), List.drop_eq_nil_of_le (by omega)]
    rfl
  | succ d ih =>
    intro j k h hk
    obtain ⟨k, rfl⟩ : ∃ q, k = q + 1 := ⟨k - 1, by omega⟩
    rw [drop_at l j (by omega), quitrentref02_Mul.lo0, if_pos (by omega), if_pos (by omega), Counts_eq, next_at j (by omega)]
    simp only [Option.bind_some, zeroIn]
    by_cases hc : cnt (rd l j) = 0
    · simp [hc]
    · rw [if_neg hc, ih (j + 1) k (by omega) (by omega)]
      have : (cnt (rd l j) == 0) = false := by simpa using hc
      simp [this]
theorem Mul_loop1 (l : List Int) (hl : l.length < 1000) : ∀ (d j k : Nat) (s : Int), j + d = l.length → d < k → 1 ≤ s → s ≤ 1125899906842624 → zeroIn (l.drop j) = false → quitrentref02_Mul.lo1 k l s j = some (low (s * prodv (l.drop j))) := by
  intro d
  induction d with
  | zero =>
    intro j k s h hk h0 h1 hz
    obtain ⟨k, rfl⟩ : ∃ q, k = q + 1 := ⟨k - 1, by omega⟩
    rw [quitrentref02_Mul.lo1, if_neg (by omega), List.drop_eq_nil_of_le (by omega)]
    simp only [prodv, low, Int.mul_one]; congr 1; omega
  | succ d ih =>
    intro j k s h hk h0 h1 hz
    obtain ⟨k, rfl⟩ : ∃ q, k = q + 1 := ⟨k - 1, by omega⟩
    have hb := cnt_bounds (rd l j)
    rw [drop_at l j (by omega)] at hz ⊢
    simp only [zeroIn, Bool.or_eq_false_iff, beq_eq_false_iff_ne] at hz
    have hc : 1 ≤ cnt (rd l j) := by omega
    have hp := prodv_pos _ hz.2
    have hsc : 1 * 1 ≤ s * cnt (rd l j) := Int.mul_le_mul h0 hc (by omega) (by omega)
    rw [quitrentref02_Mul.lo1, if_pos (by omega), if_pos (by omega), Counts_eq, next_at j (by omega)]
    simp only [Option.bind_some]
    rw [if_neg (by omega)]
    have hst := mul_step (s := s) hc
    have e := low_mul (s := s * cnt (rd l j)) (by omega) hp
    simp only [prodv]
    rw [← Int.mul_assoc, ← e]
    by_cases h2 : s * cnt (rd l j) ≤ 1125899906842624
    · rw [if_neg (by have := hst.2 h2; omega), wrap64_id (by omega) (by omega), ih (j + 1) k _ (by omega) (by omega) (by omega) (by omega) hz.2]
      rw [show low (s * cnt (rd l j)) = s * cnt (rd l j) by unfold low; omega]
    · rw [if_pos (by have := fun h => h2 (hst.1 h); omega), ih (j + 1) k _ (by omega) (by omega) (by omega) (by omega) hz.2]
      rw [show low (s * cnt (rd l j)) = 1125899906842624 by unfold low; omega]
theorem Mul_eq (l : List Int) (hl : l.length < 150) : quitrentref02_Mul.f 200 l = some (mulv l) := by
  unfold quitrentref02_Mul.f mulv
  have := Mul_loop0 l (by omega) l.length 0 200 (by omega) (by omega)
  rw [show ((0 : Nat) : Int) = 0 from rfl, List.drop_zero] at this
  rw [this]
  simp only [Option.bind_some]
  cases hz : zeroIn l
  · have := Mul_loop1 l (by omega) l.length 0 200 1 (by omega) (by omega) (by omega) (by omega) (by simpa using hz)
    rw [show ((0 : Nat) : Int) = 0 from rfl] at this
    simp [Lp.elim, this]
  · simp [Lp.elim]
theorem least_eq (a b : Int) : ratio_Least.f a b = some (if cnt a = 0 then 1 else if cnt b = 0 then 0 else upv a b) := by
  unfold ratio_Least.f
  simp only [zero_eq, up_eq, Option.bind_some, beq_iff_eq]
  split <;> (try split) <;> rfl
theorem Least_eq (a b : Int) : quitrentref02_Least.f a b = some (if cnt a = 0 then 1 else if cnt b = 0 then 0 else upv a b) := by
  unfold quitrentref02_Least.f
  simp only [Counts_eq, Up_eq, Option.bind_some]
  split <;> (try split) <;> rfl
theorem RatioLeast (a0 a1 : Int) (_ : (Lit.int .i64 a0).wf = true) (_ : (Lit.int .i64 a1).wf = true) : ∃ k, quitrentlaw02_RatioLeast.f k a0 a1 = some true := by
  refine ⟨200, ?_⟩
  have hx := cnt_bounds a0
  have hy := cnt_bounds a1
  unfold quitrentlaw02_RatioLeast.f
  simp only [begun_eq, least_eq, Least_eq, Counts_eq, up_eq, Option.bind_some, if_true]
  by_cases h0 : cnt a0 = 0
  · have e : upv a0 1 = 0 := by unfold upv; rw [h0]; decide
    simp [h0, e, hy.1]
  · simp only [if_neg h0]
    by_cases h1 : cnt a1 = 0
    · simp only [h1, if_true]; congr 1; exact decide_eq_true (by omega)
    · simp only [if_neg h1]
      have hb : byv a1 = cnt a1 := by unfold byv; omega
      generalize hk : upv a0 a1 = k
      unfold upv at hk
      rw [hb] at hk
      generalize hx' : cnt a0 = x at *
      generalize hy' : cnt a1 = y at *
      have q0 : k * y ≤ x + y - 1 := by rw [← hk]; exact Int.ediv_mul_le _ (by omega)
      have q1 : x + y - 1 < (k + 1) * y := by rw [← hk]; have := Int.lt_ediv_add_one_mul_self (x + y - 1) (show 0 < y by omega); omega
      have k1 : 1 ≤ k := by
        rcases Int.lt_or_le k 1 with h | h
        · have : (k + 1) * y ≤ 1 * y := Int.mul_le_mul_of_nonneg_right (by omega) (by omega)
          omega
        · exact h
      have k2 : k ≤ 1125899906842624 := by
        rcases Int.lt_or_le 1125899906842624 k with h | h
        · have h1 : k * 1 ≤ k * y := Int.mul_le_mul_of_nonneg_left (by omega) (by omega)
          have h3 : (x + 1) * y ≤ k * y := Int.mul_le_mul_of_nonneg_right (by omega) (by omega)
          have h4 : x * 1 ≤ x * y := Int.mul_le_mul_of_nonneg_left (by omega) (by omega)
          rw [Int.add_mul] at h3
          omega
        · exact h
      have ck : byv k = k := by unfold byv; rw [cnt_id (by omega) k2]; omega
      rw [if_neg (by omega)]
      have u1 : upv a0 k ≤ y := by
        unfold upv
        rw [ck, hx']
        have : (x + k - 1) / k < y + 1 := by
          rw [Int.ediv_lt_iff_lt_mul (by omega), Int.add_mul, Int.mul_comm y k]
          rw [Int.add_mul] at q1
          omega
        omega
      rw [if_pos u1]
      split
      · rfl
      · rename_i hn
        rw [wrap64_id (by omega) (by omega)]
        congr 1
        apply decide_eq_true
        have ck1 : byv (k - 1) = k - 1 := by unfold byv; rw [cnt_id (by omega) (by omega)]; omega
        unfold upv
        rw [ck1, hx']
        have : y + 1 ≤ (x + (k - 1) - 1) / (k - 1) := by
          rw [Int.le_ediv_iff_mul_le (by omega), Int.add_mul, Int.mul_sub, Int.mul_comm y k]
          omega
        omega
theorem RatioRound (a0 a1 : Int) (_ : (Lit.int .i64 a0).wf = true) (_ : (Lit.int .i64 a1).wf = true) : ∃ k, quitrentlaw02_RatioRound.f k a0 a1 = some true := by
  refine ⟨200, ?_⟩
  have hx := cnt_bounds a0
  have hb := byv_bounds a1
  have e1 : (if a0 > 1125899906842624 then 1125899906842624 else if a0 < 0 then 0 else a0) = cnt a0 := by
    unfold cnt
    by_cases h1 : a0 > 1125899906842624
    · rw [if_pos h1]; omega
    · rw [if_neg h1]
      by_cases h2 : a0 < 0
      · rw [if_pos h2]; omega
      · rw [if_neg h2]; omega
  have e2 : (if a1 > 1125899906842624 then 1125899906842624 else if a1 < 1 then 1 else a1) = byv a1 := by
    unfold byv cnt
    by_cases h1 : a1 > 1125899906842624
    · rw [if_pos h1]; omega
    · rw [if_neg h1]
      by_cases h2 : a1 < 1
      · rw [if_pos h2]; omega
      · rw [if_neg h2]; omega
  unfold quitrentlaw02_RatioRound.f
  simp only [begun_eq, down_eq, up_eq, clamp_eq, Option.bind_some, if_true, e1, e2, mul_eq [downv a0 a1, byv a1] (by simp), mul_eq [upv a0 a1, byv a1] (by simp)]
  have hd : downv a0 a1 = cnt a0 / byv a1 := rfl
  have hu : upv a0 a1 = if cnt a0 % byv a1 > 0 then cnt a0 / byv a1 + 1 else cnt a0 / byv a1 := by unfold upv; exact up_split hb.1
  generalize cnt a0 = x at *
  generalize byv a1 = y at *
  generalize upv a0 a1 = u at *
  generalize downv a0 a1 = d at *
  have cy : cnt y = y := cnt_id (by omega) (by omega)
  have q := div_le hx.1 hb.1
  have m1 : x / y * y ≤ x := Int.ediv_mul_le _ (by omega)
  have m2 : x ≤ (x / y) * y + x % y := by have := Int.mul_ediv_add_emod x y; rw [Int.mul_comm] at this; omega
  have m3 := Int.emod_lt_of_pos x (show 0 < y by omega)
  have cd : cnt d = d := cnt_id (by omega) (by omega)
  have hu2 : 0 ≤ u ∧ x ≤ u * y ∧ u ≤ 1125899906842624 + 1 := by
    rw [hu]
    split
    · rw [Int.add_mul]; omega
    · omega
  have a1 : mulv [d, y] ≤ x := by
    unfold mulv
    simp only [zeroIn, prodv, cd, cy, Int.mul_one]
    split
    · exact hx.1
    · rw [hd]; unfold low; omega
  have a2 : mulv [u, y] ≥ x := by
    unfold mulv
    simp only [zeroIn, prodv, cy, Int.mul_one]
    split
    · rename_i h
      simp only [Bool.or_eq_true, beq_iff_eq, Bool.or_false] at h
      rcases h with h | h
      · have : u = 0 := by unfold cnt at h; omega
        rw [this] at hu2; omega
      · omega
    · by_cases h : u ≤ 1125899906842624
      · rw [cnt_id hu2.1 h]; unfold low; omega
      · have : cnt u = 1125899906842624 := by unfold cnt; omega
        rw [this]
        have : 1125899906842624 * 1 ≤ 1125899906842624 * y := Int.mul_le_mul_of_nonneg_left hb.1 (by omega)
        unfold low; omega
  rw [if_pos a1, if_pos a2, wrap64_id (by omega) (by omega)]
  split
  · rfl
  · rename_i hn
    congr 1
    rw [beq_iff_eq, hu, hd]
    rw [hu, hd] at hn
    split
    · rfl
    · rename_i h; rw [if_neg h] at hn; exact absurd rfl hn
theorem sums_loop (l : List Int) (lo hi : Int) (hl : l.length < 1000) : ∀ (d j k : Nat), j + d = l.length → d < k → quitrentlaw02_RatioSums.lo0 k l lo hi j = some (.out ()) := by
  intro d
  induction d with
  | zero =>
    intro j k h hk
    obtain ⟨k, rfl⟩ : ∃ q, k = q + 1 := ⟨k - 1, by omega⟩
    rw [quitrentlaw02_RatioSums.lo0, if_neg (by omega)]
  | succ d ih =>
    intro j k h hk
    obtain ⟨k, rfl⟩ : ∃ q, k = q + 1 := ⟨k - 1, by omega⟩
    have := ih (j + 1) k (by omega) (by omega)
    rw [show ((j + 1 : Nat) : Int) = (j : Int) + 1 by omega] at this
    rw [quitrentlaw02_RatioSums.lo0, if_pos (by omega), if_pos (by omega), clamp_eq, wrap64_id (by omega) (by omega)]
    simp only [Option.bind_some]
    by_cases h1 : rd l j > hi
    · simp [h1, this]
    · by_cases h2 : rd l j < lo
      · simp [h1, h2, this]
      · simp [h1, h2, this]
theorem RatioSums (l0 : List Int) (a1 a2 : Int) (_ : l0.length ≤ maxLen) (_ : l0.length * 8 ≤ 140737488351232) (_ : ∀ x ∈ l0, (Lit.int .i64 x).wf = true) (_ : (Lit.int .i64 a1).wf = true) (_ : (Lit.int .i64 a2).wf = true) :
    ∃ k, quitrentlaw02_RatioSums.f k l0 a1 a2 = some true := by
  refine ⟨200, ?_⟩
  unfold quitrentlaw02_RatioSums.f
  by_cases h : (l0.length : Int) > 100
  · rw [if_pos h, begun_eq]; rfl
  · rw [if_neg h]
    have := sums_loop l0 a1 a2 (by omega) l0.length 0 200 (by omega) (by omega)
    rw [show ((0 : Nat) : Int) = 0 from rfl] at this
    rw [this]
    simp only [Option.bind_some, Lp.elim, begun_eq, if_true, add_eq l0 (by omega), Add_eq l0 (by omega), mul_eq l0 (by omega), Mul_eq l0 (by omega), beq_self_eq_true]
theorem order_loop (l : List Int) (hl : l.length < 1000) : ∀ (j k : Nat), j ≤ l.length → j < k → quitrentlaw02_RatioOrder.lo0 k l (l.drop j).reverse ((j : Int) - 1) = some l.reverse := by
  intro j
  induction j with
  | zero =>
    intro k h hk
    obtain ⟨k, rfl⟩ : ∃ q, k = q + 1 := ⟨k - 1, by omega⟩
    rw [quitrentlaw02_RatioOrder.lo0, if_neg (by omega)]
    simp
  | succ j ih =>
    intro k h hk
    obtain ⟨k, rfl⟩ : ∃ q, k = q + 1 := ⟨k - 1, by omega⟩
    rw [quitrentlaw02_RatioOrder.lo0, if_pos (by omega), if_pos (by omega), if_pos (by omega), if_pos (by simp; omega), wrap64_id (by omega) (by omega)]
    simp only [Option.bind_some]
    have e : ((j + 1 : Nat) : Int) - 1 = (j : Int) := by omega
    have := ih k (by omega) (by omega)
    rw [drop_at l j (by omega), List.reverse_cons] at this
    rw [e, this]
theorem RatioOrder (l0 : List Int) (a1 : Int) (_ : l0.length ≤ maxLen) (_ : l0.length * 8 ≤ 140737488351232) (_ : ∀ x ∈ l0, (Lit.int .i64 x).wf = true) (_ : (Lit.int .i64 a1).wf = true) :
    ∃ k, quitrentlaw02_RatioOrder.f k l0 a1 = some true := by
  refine ⟨200, ?_⟩
  unfold quitrentlaw02_RatioOrder.f
  by_cases h : (l0.length : Int) > 100
  · rw [if_pos h, begun_eq]; rfl
  · rw [if_neg h]
    have := order_loop l0 (by omega) l0.length 200 (by omega) (by omega)
    rw [List.drop_length, List.reverse_nil] at this
    rw [wrap64_id (by omega) (by omega), this]
    have hs := sumv_nonneg l0
    have hc := cnt_bounds a1
    have e1 : addv l0.reverse = addv l0 := by unfold addv; rw [sumv_reverse]
    have e2 : mulv l0.reverse = mulv l0 := by unfold mulv; rw [zeroIn_reverse, prodv_reverse]
    have e3 : addv (l0.reverse ++ [a1]) = low (sumv l0 + cnt a1) := by unfold addv; rw [sumv_append, sumv_reverse]; simp [sumv]
    have hlow := low_bounds hs
    simp only [Option.bind_some]
    simp only [begun_eq, add_eq l0 (by omega), add_eq l0.reverse (by simp; omega), mul_eq l0 (by omega), mul_eq l0.reverse (by simp; omega), Option.bind_some, if_true, e1, e2]
    rw [if_pos (by simp; omega)]
    simp only [add_eq (l0.reverse ++ [a1]) (by simp; omega), add_eq [addv l0, a1] (by simp), Option.bind_some, e3]
    rw [if_pos (by unfold addv low; omega)]
    congr 1
    rw [beq_iff_eq]
    unfold addv
    simp only [sumv, cnt_id hlow.1 hlow.2]
    unfold low
    omega
end Go.Proofs.Ytgkpcboaiaiahaa.V
