/- The laws of the group PackS on the plain functions. No condition. -/
import Derived.Test.YtgkpcboaiaiahaaMPack
import Derived.DataShut
import Derived.Laws.Bits64
import Derived.Laws.BitsLemmas
import Derived.RowKit
namespace Go.Proofs.Ytgkpcboaiaiahaa.V
open Go.RowKit Go.Proofs.Ytgkpcboaiaiahaa.C Go.Proofs.Ytgkpcboaiaiahaa.M Go.Proofs.YtgkpcboaiaiahaaW.PrintWords

/-- popcount -/
def pc : Nat → Nat
  | 0 => 0
  | n + 1 => (n + 1) % 2 + pc ((n + 1) / 2)
termination_by n => n
decreasing_by omega

theorem pc_eq (n : Nat) : pc n = n % 2 + pc (n / 2) := by
  cases n with
  | zero => simp [pc]
  | succ n => rw [pc]

theorem and_pred_even (y : Nat) (h : 0 < y) : (2 * y) &&& (2 * y - 1) = 2 * (y &&& (y - 1)) := by
  have e : 2 * y - 1 = 2 * (y - 1) + 1 := by omega
  rw [e]
  apply Nat.eq_of_testBit_eq
  intro i
  cases i with
  | zero => simp [Nat.testBit_zero]
  | succ i =>
    rw [Nat.testBit_and, Nat.testBit_succ, Nat.testBit_succ, Nat.testBit_succ, show 2 * y / 2 = y by omega, show (2 * (y - 1) + 1) / 2 = y - 1 by omega, show 2 * (y &&& (y - 1)) / 2 = y &&& (y - 1) by omega, Nat.testBit_and]
theorem and_pred_odd (y : Nat) : (2 * y + 1) &&& (2 * y) = 2 * y := by
  apply Nat.eq_of_testBit_eq
  intro i
  cases i with
  | zero => simp [Nat.testBit_zero]
  | succ i =>
    rw [Nat.testBit_and, Nat.testBit_succ, Nat.testBit_succ, show 2 * y / 2 = y by omega, show (2 * y + 1) / 2 = y by omega, Bool.and_self]
theorem pc_double (n : Nat) : pc (2 * n) = pc n := by
  rw [pc_eq]; simp
theorem pc_double1 (n : Nat) : pc (2 * n + 1) = pc n + 1 := by
  rw [pc_eq, show (2 * n + 1) % 2 = 1 by omega, show (2 * n + 1) / 2 = n by omega]; omega
theorem pc_and_pred : ∀ n : Nat, 0 < n → pc (n &&& (n - 1)) + 1 = pc n := by
  intro n
  induction n using Nat.strongRecOn with
  | _ n ih =>
    intro h
    rcases Nat.mod_two_eq_zero_or_one n with e | e
    · obtain ⟨y, rfl⟩ : ∃ y, n = 2 * y := ⟨n / 2, by omega⟩
      rw [and_pred_even y (by omega), pc_double, pc_double, ih y (by omega) (by omega)]
    · obtain ⟨y, rfl⟩ : ∃ y, n = 2 * y + 1 := ⟨n / 2, by omega⟩
      rw [show 2 * y + 1 - 1 = 2 * y by omega, and_pred_odd, pc_double, pc_double1]
theorem and_pred_lt (n : Nat) (h : 0 < n) : n &&& (n - 1) < n := by
  have := @Nat.and_le_right n (n - 1)
  omega
theorem pc_pow (k n : Nat) (h : n < 2 ^ k) : pc n ≤ k := by
  induction k generalizing n with
  | zero => simp at h; subst h; simp [pc]
  | succ k ih =>
    rw [pc_eq]
    have := ih (n / 2) (by rw [Nat.pow_succ] at h; omega)
    omega

theorem u32_and (a b : Nat) (ha : a < 2 ^ 32) (hb : b < 2 ^ 32) : bits .and .u32 a b = ((a &&& b : Nat) : Int) :=
  (bits_nat .u32 32 (by decide) (fun n h0 h1 => by rw [IntKind.wrap_u32]; omega) a b ha hb).1
theorem u32_or (a b : Nat) (ha : a < 2 ^ 32) (hb : b < 2 ^ 32) : bits .or .u32 a b = ((a ||| b : Nat) : Int) :=
  (bits_nat .u32 32 (by decide) (fun n h0 h1 => by rw [IntKind.wrap_u32]; omega) a b ha hb).2
theorem wrap64_id {n : Int} (h0 : -9223372036854775808 ≤ n) (h1 : n ≤ 9223372036854775807) : wrap64 n = n := by unfold wrap64; omega

def getN (w a n : Nat) : Nat := w / 2 ^ a % 2 ^ n
def putN (w a n v : Nat) : Nat := 2 ^ a * (2 ^ n * (w / 2 ^ (a + n)) + v) + w % 2 ^ a

theorem getN_bit (w a n j : Nat) : (getN w a n).testBit j = (decide (j < n) && w.testBit (a + j)) := by
  unfold getN; rw [Nat.testBit_mod_two_pow, Nat.testBit_div_two_pow, Nat.add_comm]
theorem getN_lt (w a n : Nat) : getN w a n < 2 ^ n := Nat.mod_lt _ (Nat.two_pow_pos n)
theorem putN_bit (w a n v j : Nat) (hv : v < 2 ^ n) : (putN w a n v).testBit j = if j < a then w.testBit j else if j < a + n then v.testBit (j - a) else w.testBit j := by
  unfold putN
  rw [Nat.testBit_two_pow_mul_add _ (Nat.mod_lt _ (Nat.two_pow_pos a))]
  split
  · rename_i h; rw [Nat.testBit_mod_two_pow]; simp [h]
  · rename_i h
    rw [Nat.testBit_two_pow_mul_add _ hv]
    by_cases h2 : j < a + n
    · rw [if_pos (by omega), if_pos h2]
    · rw [if_neg (by omega), if_neg h2, Nat.testBit_div_two_pow]; congr 1; omega
theorem bit_big {v n j : Nat} (hv : v < 2 ^ n) (h : n ≤ j) : v.testBit j = false := Nat.testBit_lt_two_pow (Nat.lt_of_lt_of_le hv (Nat.pow_le_pow_right (by decide) h))
theorem putN_lt (w a n v m : Nat) (hv : v < 2 ^ n) (hw : w < 2 ^ m) (h : a + n ≤ m) : putN w a n v < 2 ^ m := by
  apply Nat.lt_pow_two_of_testBit
  intro j hj
  rw [putN_bit _ _ _ _ _ hv, if_neg (by omega), if_neg (by omega)]
  exact bit_big hw hj
theorem get_put (w a n v : Nat) (hv : v < 2 ^ n) : getN (putN w a n v) a n = v := by
  apply Nat.eq_of_testBit_eq
  intro j
  rw [getN_bit, putN_bit _ _ _ _ _ hv]
  by_cases h : j < n
  · rw [if_neg (by omega), if_pos (by omega)]; simp [h]
  · simp [h, bit_big hv (show n ≤ j by omega)]
theorem get_put_other (w a n v b m : Nat) (hv : v < 2 ^ n) (h : a + n ≤ b ∨ b + m ≤ a) : getN (putN w a n v) b m = getN w b m := by
  apply Nat.eq_of_testBit_eq
  intro j
  rw [getN_bit, getN_bit, putN_bit _ _ _ _ _ hv]
  by_cases hj : j < m
  · rcases h with h | h
    · rw [if_neg (by omega), if_neg (by omega)]
    · rw [if_pos (by omega)]
  · simp [hj]
theorem put_get (w a n v : Nat) (hv : v < 2 ^ n) : putN (putN w a n v) a n (getN w a n) = w := by
  apply Nat.eq_of_testBit_eq
  intro j
  rw [putN_bit _ _ _ _ _ (getN_lt _ _ _), putN_bit _ _ _ _ _ hv, getN_bit]
  by_cases h1 : j < a
  · simp [h1]
  · by_cases h2 : j < a + n
    · simp [h1, h2, show j - a < n by omega, show a + (j - a) = j by omega]
    · simp [h1, h2]
theorem and_mask (w a n : Nat) : w &&& ((2 ^ n - 1) * 2 ^ a) = getN w a n * 2 ^ a := by
  apply Nat.eq_of_testBit_eq
  intro j
  rw [Nat.testBit_and, Nat.testBit_mul_two_pow, Nat.testBit_mul_two_pow, getN_bit, Nat.testBit_two_pow_sub_one]
  by_cases h : a ≤ j
  · simp [h, show a + (j - a) = j by omega, Bool.and_comm]
  · simp [h]
theorem put_sum (w a n v : Nat) : putN w a n v + getN w a n * 2 ^ a = w + v * 2 ^ a := by
  unfold putN getN
  have h1 : w / 2 ^ (a + n) = w / 2 ^ a / 2 ^ n := by rw [Nat.pow_add, Nat.div_div_eq_div_mul]
  rw [h1]
  have h2 := Nat.div_add_mod w (2 ^ a)
  have h3 := Nat.div_add_mod (w / 2 ^ a) (2 ^ n)
  generalize w % 2 ^ a = m at *
  generalize w / 2 ^ a = q at *
  generalize q / 2 ^ n = p at *
  generalize q % 2 ^ n = r at *
  rw [← h2, ← h3, Nat.mul_add, Nat.mul_add, Nat.mul_comm r, Nat.mul_comm v]
  omega
/-- What Go's Put computes: the bits that are not the piece's, and v. -/
theorem put_bits (w a n v : Nat) (hw : w < 2 ^ 32) (hv : v < 2 ^ n) (h : a + n ≤ 32) :
    bits .or .u32 (bits .andNot .u32 w (((2 ^ n - 1) * 2 ^ a : Nat) : Int)) ((v * 2 ^ a : Nat) : Int) = ((putN w a n v : Nat) : Int) := by
  have hva : v * 2 ^ a < 2 ^ 32 := Nat.lt_of_lt_of_le (Nat.mul_lt_mul_of_pos_right hv (Nat.two_pow_pos a)) (by rw [← Nat.pow_add]; exact Nat.pow_le_pow_right (by decide) (by omega))
  have hma : (2 ^ n - 1) * 2 ^ a < 2 ^ 32 := Nat.lt_of_lt_of_le (Nat.mul_lt_mul_of_pos_right (Nat.sub_lt (Nat.two_pow_pos n) (by decide)) (Nat.two_pow_pos a)) (by rw [← Nat.pow_add]; exact Nat.pow_le_pow_right (by decide) (by omega))
  have e1 : bits .andNot .u32 (w : Int) (((2 ^ n - 1) * 2 ^ a : Nat) : Int) = (((BitVec.ofNat 32 w &&& ~~~ (BitVec.ofNat 32 ((2 ^ n - 1) * 2 ^ a))).toNat : Nat) : Int) := by
    have e : ∀ x : BitVec 32, IntKind.u32.wrap (x.toNat : Int) = ((x.toNat : Nat) : Int) := fun x => by
      rw [IntKind.wrap_u32]
      have := x.isLt
      omega
    simp only [bits, BitVec.ofInt_natCast]
    exact e _
  rw [e1, (bits_nat .u32 32 (by decide) (fun n h0 h1 => by rw [IntKind.wrap_u32]; omega) _ _ (BitVec.isLt _) hva).2]
  congr 1
  apply Nat.eq_of_testBit_eq
  intro j
  rw [Nat.testBit_or, BitVec.testBit_toNat, BitVec.getLsbD_and, BitVec.getLsbD_not, BitVec.getLsbD_ofNat, BitVec.getLsbD_ofNat, putN_bit _ _ _ _ _ hv, Nat.testBit_mul_two_pow, Nat.testBit_mul_two_pow, Nat.testBit_two_pow_sub_one]
  by_cases h32 : j < 32
  · by_cases h1 : j < a
    · simp [h32, h1, show ¬ a ≤ j by omega]
    · by_cases h2 : j < a + n
      · simp [h32, h1, h2, show a ≤ j by omega, show j - a < n by omega]
      · simp [h32, h1, h2, show a ≤ j by omega, show ¬ j - a < n by omega, bit_big hv (show n ≤ j - a by omega)]
  · simp [h32, show ¬ j < a by omega, show ¬ j < a + n by omega, show a ≤ j by omega, bit_big hv (show n ≤ j - a by omega), bit_big hw (show 32 ≤ j by omega)]
theorem w64 {n : Int} (h0 : 0 ≤ n) (h1 : n < 18446744073709551616) : IntKind.u64.wrap n = n := by rw [IntKind.wrap_u64]; omega
theorem two_le {a b : Nat} (h : a ≤ b) : 2 ^ a ≤ 2 ^ b := Nat.pow_le_pow_right (by decide) h
theorem rd_at (l : List Int) (j : Nat) (h : j < l.length) : rd l (j : Int) = l[j] := by
  simp [rd, List.getD_eq_getElem?_getD, List.getElem?_eq_getElem h]
theorem drop_at (l : List Int) (j : Nat) (h : j < l.length) : l.drop j = rd l (j : Int) :: l.drop (j + 1) := by
  rw [rd_at l j h]; exact List.drop_eq_getElem_cons h
theorem next_at (j : Nat) (h : j < 100000) : wrap64 ((j : Int) + 1) = ((j + 1 : Nat) : Int) := by
  rw [wrap64_id (by omega) (by omega)]; omega
def piecev (at_ n : Int) : Prop := 0 ≤ at_ ∧ 1 ≤ n ∧ n ≤ 32 ∧ at_ ≤ 32 - n
instance (a n : Int) : Decidable (piecev a n) := by unfold piecev; infer_instance
theorem isPiece_eq (a n : Int) : pack_isPiece.f a n = some (decide (piecev a n)) := by
  unfold pack_isPiece.f
  by_cases h1 : a ≥ 0
  · rw [if_pos h1]
    by_cases h2 : n ≥ 1
    · rw [if_pos h2]
      by_cases h3 : n ≤ 32
      · rw [if_pos h3, wrap64_id (by omega) (by omega)]; congr 1; exact decide_eq_decide.2 (by unfold piecev; omega)
      · rw [if_neg h3]; congr 1; exact (decide_eq_false (by unfold piecev; omega)).symm
    · rw [if_neg h2]; congr 1; exact (decide_eq_false (by unfold piecev; omega)).symm
  · rw [if_neg h1]; congr 1; exact (decide_eq_false (by unfold piecev; omega)).symm
theorem Piece_eq (a n : Int) : quitrentref01_Piece.f a n = some (decide (piecev a n)) := isPiece_eq a n
/-- How many bits a number of bits is, as far as 32. -/
def capv (n : Int) : Nat := min n.toNat 32
theorem power_loop (n : Int) : ∀ (d k i : Nat), i + d = capv n → d < k → quitrentref01_Power.lo0 k n ((2 ^ i : Nat) : Int) (i : Int) = some ((2 ^ capv n : Nat) : Int) := by
  intro d
  induction d with
  | zero =>
    intro k i hi hk
    obtain ⟨k, rfl⟩ : ∃ q, k = q + 1 := ⟨k - 1, by omega⟩
    obtain rfl : i = capv n := by omega
    rw [quitrentref01_Power.lo0]
    by_cases h : ((capv n : Nat) : Int) < n
    · rw [if_pos h, if_neg (by unfold capv at *; omega)]
    · rw [if_neg h]
  | succ d ih =>
    intro k i hi hk
    obtain ⟨k, rfl⟩ : ∃ q, k = q + 1 := ⟨k - 1, by omega⟩
    have hc : capv n ≤ 32 ∧ (capv n : Int) ≤ max n 0 := by unfold capv; omega
    have e : ((2 ^ i : Nat) : Int) * 2 = ((2 ^ (i + 1) : Nat) : Int) := by rw [Nat.pow_succ]; omega
    have hX : 2 ^ (i + 1) ≤ 2 ^ 33 := two_le (by omega)
    have hw : IntKind.u64.wrap ((2 ^ (i + 1) : Nat) : Int) = ((2 ^ (i + 1) : Nat) : Int) := by
      generalize 2 ^ (i + 1) = X at hX ⊢
      exact w64 (by omega) (by omega)
    rw [quitrentref01_Power.lo0, if_pos (by omega), if_pos (by omega), next_at i (by omega), e, hw]
    exact ih k (i + 1) (by omega) (by omega)
theorem power_eq (k : Nat) (hk : 33 ≤ k) (n : Int) : quitrentref01_Power.f k n = some ((2 ^ capv n : Nat) : Int) := by
  unfold quitrentref01_Power.f
  have := power_loop n (capv n) k 0 (by omega) (by unfold capv; omega)
  rw [show ((2 ^ 0 : Nat) : Int) = 1 from rfl, show ((0 : Nat) : Int) = 0 from rfl] at this
  rw [this]
  rfl
theorem cap_lt (n : Int) : 2 ^ capv n ≤ 4294967296 := two_le (b := 32) (by unfold capv; omega)
def fitsv (v : Nat) (n : Int) : Prop := v < 2 ^ capv n
instance (v : Nat) (n : Int) : Decidable (fitsv v n) := by unfold fitsv; infer_instance
theorem Fits_eq (k : Nat) (hk : 33 ≤ k) (v : Nat) (hv : v < 4294967296) (n : Int) : quitrentref01_Fits.f k v n = some (decide (fitsv v n)) := by
  unfold quitrentref01_Fits.f
  rw [power_eq k hk]
  simp only [Option.bind_some]
  rw [w64 (by omega) (by omega)]
  congr 1
  exact decide_eq_decide.2 (by unfold fitsv; omega)
theorem fits_eq (v : Nat) (hv : v < 4294967296) (n : Int) (hn : (-9223372036854775808 : Int) ≤ n) (hn' : n ≤ 9223372036854775807) : pack_Fits.f v n = some (decide (fitsv v n)) := by
  unfold pack_Fits.f
  by_cases h1 : n ≥ 32
  · rw [if_pos h1]; congr 1
    exact (decide_eq_true (by unfold fitsv; rw [show capv n = 32 by unfold capv; omega]; omega)).symm
  · rw [if_neg h1]
    by_cases h2 : n < 0
    · rw [if_pos h2]; congr 1
      rw [Bool.eq_iff_iff, beq_iff_eq, decide_eq_true_eq]
      unfold fitsv; rw [show capv n = 0 by unfold capv; omega]; omega
    · rw [if_neg h2, w64 (by omega) (by omega), if_pos (by omega)]
      congr 1
      rw [Bool.eq_iff_iff, beq_iff_eq, decide_eq_true_eq]
      unfold fitsv capv
      have e : (2 : Int) ^ min n.toNat 32 = ((2 ^ min n.toNat 32 : Nat) : Int) := by rw [Int.natCast_pow]; rfl
      rw [e, ← Int.natCast_ediv]
      have hp := Nat.two_pow_pos (min n.toNat 32)
      have := @Nat.div_eq_zero_iff v (2 ^ min n.toNat 32)
      omega
theorem mask_all : ∀ n < 33, ∀ a < 33, 1 ≤ n → a + n ≤ 32 → pack_mask.f (a : Nat) (n : Nat) = some (((2 ^ n - 1) * 2 ^ a : Nat) : Int) := by decide +kernel
theorem get_eq (w : Nat) (hw : w < 4294967296) (a n : Int) : pack_Get.f w a n = some (if piecev a n then ((getN w a.toNat n.toNat : Nat) : Int) else 0) := by
  unfold pack_Get.f
  rw [isPiece_eq]
  simp only [Option.bind_some, decide_eq_true_eq]
  by_cases h : piecev a n
  · rw [if_pos h, if_pos h]
    obtain ⟨h1, h2, h3, h4⟩ := h
    obtain ⟨a, rfl⟩ := Int.eq_ofNat_of_zero_le h1
    obtain ⟨n, rfl⟩ := Int.eq_ofNat_of_zero_le (show 0 ≤ n by omega)
    have hmask : (2 ^ n - 1) * 2 ^ a < 2 ^ 32 := Nat.lt_of_lt_of_le (Nat.mul_lt_mul_of_pos_right (Nat.sub_lt (Nat.two_pow_pos n) (by decide)) (Nat.two_pow_pos a)) (by rw [← Nat.pow_add]; exact Nat.pow_le_pow_right (by decide) (by omega))
    rw [mask_all n (by omega) a (by omega) (by omega) (by omega)]
    simp only [Option.bind_some]
    rw [w64 (by omega) (by omega), if_pos (by omega), u32_and w _ (by omega) hmask, and_mask]
    simp only [Int.toNat_natCast]
    congr 1
    have e : (2 : Int) ^ min a 32 = ((2 ^ a : Nat) : Int) := by rw [Int.natCast_pow, show min a 32 = a by omega]; rfl
    rw [e, ← Int.natCast_ediv, Nat.mul_div_cancel _ (Nat.two_pow_pos a)]
  · rw [if_neg h, if_neg h]
theorem Get_eq (k : Nat) (hk : 33 ≤ k) (w : Nat) (hw : w < 4294967296) (a n : Int) : quitrentref01_Get.f k w a n = some (if piecev a n then ((getN w a.toNat n.toNat : Nat) : Int) else 0) := by
  unfold quitrentref01_Get.f
  rw [Piece_eq]
  simp only [Option.bind_some, decide_eq_true_eq]
  by_cases h : piecev a n
  · rw [if_pos h, if_pos h, power_eq k hk, power_eq k hk]
    obtain ⟨h1, h2, h3, h4⟩ := h
    simp only [Option.bind_some]
    have hp := Nat.two_pow_pos (capv a)
    have hq := Nat.two_pow_pos (capv n)
    have hq' := cap_lt n
    rw [if_neg (by omega), if_neg (by omega), w64 (n := (w : Int)) (by omega) (by omega), Int.tdiv_eq_ediv_of_nonneg (by omega), ← Int.natCast_ediv]
    have hd : w / 2 ^ capv a ≤ w := Nat.div_le_self _ _
    have ea : capv a = a.toNat := by unfold capv; omega
    have en : capv n = n.toNat := by unfold capv; omega
    unfold getN
    rw [← ea, ← en]
    generalize w / 2 ^ capv a = q at *
    have hm : q % 2 ^ capv n < 2 ^ capv n := Nat.mod_lt _ hq
    rw [w64 (by omega) (by omega), Int.tmod_eq_emod_of_nonneg (by omega), ← Int.natCast_emod]
    generalize q % 2 ^ capv n = m at *
    congr 1
    omega
  · rw [if_neg h, if_neg h]
def putv (w : Nat) (a n : Int) (v : Nat) : Int × Int := if piecev a n then (if fitsv v n then (((putN w a.toNat n.toNat v : Nat) : Int), 0) else (0, 15)) else (0, 2)
theorem put_eq (w : Nat) (hw : w < 4294967296) (a n : Int) (v : Nat) (hv : v < 4294967296) : pack_Put.f w a n v = some (putv w a n v) := by
  unfold pack_Put.f putv
  rw [isPiece_eq]
  simp only [Option.bind_some, decide_eq_true_eq]
  by_cases h : piecev a n
  · rw [if_pos h, if_pos h]
    obtain ⟨h1, h2, h3, h4⟩ := h
    rw [fits_eq v hv n (by omega) (by omega)]
    simp only [Option.bind_some, decide_eq_true_eq]
    by_cases hf : fitsv v n
    · rw [if_pos hf, if_pos hf]
      obtain ⟨a, rfl⟩ := Int.eq_ofNat_of_zero_le h1
      obtain ⟨n, rfl⟩ := Int.eq_ofNat_of_zero_le (show 0 ≤ n by omega)
      have hvn : v < 2 ^ n := by unfold fitsv at hf; rwa [show capv (n : Int) = n by unfold capv; omega] at hf
      rw [mask_all n (by omega) a (by omega) (by omega) (by omega)]
      simp only [Option.bind_some, Int.toNat_natCast]
      rw [w64 (by omega) (by omega), if_pos (by omega)]
      have e : (v : Int) * 2 ^ min a 32 = ((v * 2 ^ a : Nat) : Int) := by rw [show min a 32 = a by omega, Int.natCast_mul, Int.natCast_pow]; rfl
      have hva : v * 2 ^ a < 2 ^ 32 := Nat.lt_of_lt_of_le (Nat.mul_lt_mul_of_pos_right hvn (Nat.two_pow_pos a)) (by rw [← Nat.pow_add]; exact Nat.pow_le_pow_right (by decide) (by omega))
      simp only [Int.toNat_natCast]
      rw [e, show IntKind.u32.wrap ((v * 2 ^ a : Nat) : Int) = ((v * 2 ^ a : Nat) : Int) by rw [IntKind.wrap_u32]; omega, put_bits w a n v (by omega) hvn (by omega)]
    · rw [if_neg hf, if_neg hf]
  · rw [if_neg h, if_neg h]
theorem Put_eq (k : Nat) (hk : 33 ≤ k) (w : Nat) (hw : w < 4294967296) (a n : Int) (v : Nat) (hv : v < 4294967296) : quitrentref01_Put.f k w a n v = some (putv w a n v) := by
  unfold quitrentref01_Put.f putv
  rw [Piece_eq]
  simp only [Option.bind_some, decide_eq_true_eq]
  by_cases h : piecev a n
  · rw [if_pos h, if_pos h, Fits_eq k hk v hv]
    simp only [Option.bind_some, decide_eq_true_eq]
    by_cases hf : fitsv v n
    · rw [if_pos hf, if_pos hf, Get_eq k hk w hw, power_eq k hk]
      simp only [Option.bind_some, if_pos h]
      obtain ⟨h1, h2, h3, h4⟩ := h
      obtain ⟨a, rfl⟩ := Int.eq_ofNat_of_zero_le h1
      obtain ⟨n, rfl⟩ := Int.eq_ofNat_of_zero_le (show 0 ≤ n by omega)
      have hvn : v < 2 ^ n := by unfold fitsv at hf; rwa [show capv (n : Int) = n by unfold capv; omega] at hf
      rw [show capv (a : Int) = a by unfold capv; omega]
      simp only [Int.toNat_natCast]
      have hs := put_sum w a n v
      have hl := putN_lt w a n v 32 hvn (by omega) (by omega)
      have hva : v * 2 ^ a < 2 ^ 32 := Nat.lt_of_lt_of_le (Nat.mul_lt_mul_of_pos_right hvn (Nat.two_pow_pos a)) (by rw [← Nat.pow_add]; exact Nat.pow_le_pow_right (by decide) (by omega))
      have hga : getN w a n * 2 ^ a < 2 ^ 32 := Nat.lt_of_lt_of_le (Nat.mul_lt_mul_of_pos_right (getN_lt w a n) (Nat.two_pow_pos a)) (by rw [← Nat.pow_add]; exact Nat.pow_le_pow_right (by decide) (by omega))
      have hg := Nat.lt_of_lt_of_le (getN_lt w a n) (two_le (show n ≤ 32 by omega))
      rw [w64 (n := (w : Int)) (by omega) (by omega), w64 (n := ((getN w a n : Nat) : Int)) (by omega) (by omega), w64 (n := (v : Int)) (by omega) (by omega), ← Int.natCast_mul, ← Int.natCast_mul, w64 (n := ((getN w a n * 2 ^ a : Nat) : Int)) (by omega) (by omega), w64 (n := ((v * 2 ^ a : Nat) : Int)) (by omega) (by omega)]
      congr 2
      simp only [IntKind.wrap_u64]
      omega
    · rw [if_neg hf, if_neg hf]
  · rw [if_neg h, if_neg h]
theorem ones_loop : ∀ (d : Nat) (k x : Nat) (c : Int), pc x ≤ d → d < k → x < 4294967296 → 0 ≤ c → c ≤ 1000 → c + pc x ≤ 1000 → pack_Ones.lo0 k x c = some (c + pc x) := by
  intro d
  induction d with
  | zero =>
    intro k x c hd hk hx h0 h1 h2
    obtain ⟨k, rfl⟩ : ∃ q, k = q + 1 := ⟨k - 1, by omega⟩
    have : x = 0 := by
      rcases Nat.eq_zero_or_pos x with h | h
      · exact h
      · have := pc_and_pred x h; omega
    subst this
    rw [pack_Ones.lo0, if_pos (by omega), show pc 0 = 0 by simp [pc]]
    congr 1; omega
  | succ d ih =>
    intro k x c hd hk hx h0 h1 h2
    obtain ⟨k, rfl⟩ : ∃ q, k = q + 1 := ⟨k - 1, by omega⟩
    rw [pack_Ones.lo0]
    rcases Nat.eq_zero_or_pos x with h | h
    · subst h; rw [if_pos (by omega), show pc 0 = 0 by simp [pc]]; congr 1; omega
    · have e := pc_and_pred x h
      have hlt := and_pred_lt x h
      rw [if_neg (by omega), show (((x : Int) - 1) % 4294967296) = ((x - 1 : Nat) : Int) by omega, u32_and x (x - 1) (by omega) (by omega), wrap64_id (by omega) (by omega), ih k _ _ (by omega) (by omega) (by omega) (by omega) (by omega) (by omega)]
      congr 1; omega
theorem ones_eq (k : Nat) (hk : 40 ≤ k) (x : Nat) (hx : x < 4294967296) : pack_Ones.f k x = some ((pc x : Nat) : Int) := by
  unfold pack_Ones.f
  have := pc_pow 32 x (by omega)
  rw [ones_loop (pc x) k x 0 (by omega) (by omega) hx (by omega) (by omega) (by omega)]
  simp
theorem begun_eq : quitrentlaw01_begun.f 300 = some true := by decide +kernel
theorem Ones_loop : ∀ (d : Nat) (k x : Nat) (c : Int) (i : Nat), i + d = 32 → d < k → x < 2 ^ d → 0 ≤ c → c + d ≤ 32 → quitrentref01_Ones.lo0 k x c i = some (c + pc x) := by
  intro d
  induction d with
  | zero =>
    intro k x c i hi hk hx h0 h1
    obtain ⟨k, rfl⟩ : ∃ q, k = q + 1 := ⟨k - 1, by omega⟩
    have : x = 0 := by have : 2 ^ 0 = 1 := rfl; omega
    subst this
    rw [quitrentref01_Ones.lo0, if_neg (by omega), show pc 0 = 0 by simp [pc]]
    congr 1; omega
  | succ d ih =>
    intro k x c i hi hk hx h0 h1
    obtain ⟨k, rfl⟩ : ∃ q, k = q + 1 := ⟨k - 1, by omega⟩
    have hp := Nat.pow_succ 2 d
    have h32 := two_le (show d + 1 ≤ 32 by omega)
    rw [quitrentref01_Ones.lo0, if_pos (by omega), Int.tdiv_eq_ediv_of_nonneg (by omega), Int.tmod_eq_emod_of_nonneg (by omega), show ((x : Int) / 2) % 4294967296 = ((x / 2 : Nat) : Int) by omega, wrap64_id (n := (x : Int) % 2) (by omega) (by omega), wrap64_id (n := c + (x : Int) % 2) (by omega) (by omega), next_at i (by omega), ih k (x / 2) _ (i + 1) (by omega) (by omega) (by omega) (by omega) (by omega), pc_eq x]
    congr 1; omega
theorem Ones_eq (x : Nat) (hx : x < 4294967296) : quitrentref01_Ones.f 300 x = some ((pc x : Nat) : Int) := by
  unfold quitrentref01_Ones.f
  have := Ones_loop 32 300 x 0 0 (by omega) (by omega) (by omega) (by omega) (by omega)
  rw [show ((0 : Nat) : Int) = 0 from rfl] at this
  rw [this]
  simp
theorem PackGets (a0 a1 a2 : Int) (h0 : (Lit.int .u32 a0).wf = true) (_ : (Lit.int .i64 a1).wf = true) (h2 : (Lit.int .i64 a2).wf = true) : ∃ k, quitrentlaw01_PackGets.f k a0 a1 a2 = some true := by
  refine ⟨300, ?_⟩
  rw [Lit.wf_int_iff] at h0 h2
  have q0 : 0 ≤ a0 := h0.1
  have q1 : a0 ≤ 4294967295 := h0.2
  have q2 : -9223372036854775808 ≤ a2 := h2.1
  have q3 : a2 ≤ 9223372036854775807 := h2.2
  obtain ⟨w, rfl⟩ := Int.eq_ofNat_of_zero_le q0
  unfold quitrentlaw01_PackGets.f
  simp only [begun_eq, get_eq w (by omega), Get_eq 300 (by omega) w (by omega), fits_eq w (by omega) a2 q2 q3, Fits_eq 300 (by omega) w (by omega), ones_eq 300 (by omega) w (by omega), Ones_eq w (by omega), Option.bind_some, if_true, beq_self_eq_true]
  split <;> rfl
theorem PackPuts (a0 a1 a2 a3 : Int) (h0 : (Lit.int .u32 a0).wf = true) (_ : (Lit.int .i64 a1).wf = true) (_ : (Lit.int .i64 a2).wf = true) (h3 : (Lit.int .u32 a3).wf = true) : ∃ k, quitrentlaw01_PackPuts.f k a0 a1 a2 a3 = some true := by
  refine ⟨300, ?_⟩
  rw [Lit.wf_int_iff] at h0 h3
  have q0 : 0 ≤ a0 := h0.1
  have q1 : a0 ≤ 4294967295 := h0.2
  have q2 : 0 ≤ a3 := h3.1
  have q3 : a3 ≤ 4294967295 := h3.2
  obtain ⟨w, rfl⟩ := Int.eq_ofNat_of_zero_le q0
  obtain ⟨v, rfl⟩ := Int.eq_ofNat_of_zero_le q2
  unfold quitrentlaw01_PackPuts.f
  simp only [begun_eq, put_eq w (by omega) a1 a2 v (by omega), Put_eq 300 (by omega) w (by omega) a1 a2 v (by omega), Option.bind_some, if_true, beq_self_eq_true]
/-! ### widths, pieces, joins -/
def totv (s : Int) : List Int → Option Int
  | [] => some s
  | n :: l => if n < 1 ∨ n > 32 - s then none else totv (s + n) l
theorem tot_bounds : ∀ (l : List Int) (s t : Int), totv s l = some t → s ≤ 32 → s ≤ t ∧ t ≤ 32
  | [], s, t, h, hs => by simp only [totv, Option.some.injEq] at h; omega
  | n :: l, s, t, h, hs => by
    rw [totv] at h
    by_cases hn : n < 1 ∨ n > 32 - s
    · rw [if_pos hn] at h; cases h
    · rw [if_neg hn] at h
      have := tot_bounds l (s + n) t h (by omega)
      omega
theorem tot_cons {n s t : Int} {l : List Int} (h : totv s (n :: l) = some t) : 1 ≤ n ∧ n ≤ 32 - s ∧ totv (s + n) l = some t := by
  rw [totv] at h
  by_cases hn : n < 1 ∨ n > 32 - s
  · rw [if_pos hn] at h; cases h
  · rw [if_neg hn] at h; exact ⟨by omega, by omega, h⟩
def outv : Option Int → Lp Int Int
  | some t => .out t
  | none => .ret (-1)
theorem total_loop (l : List Int) (hl : l.length < 1000) : ∀ (d j k : Nat) (s : Int), j + d = l.length → d < k → 0 ≤ s → s ≤ 32 → pack_total.lo0 k l s j = some (outv (totv s (l.drop j))) := by
  intro d
  induction d with
  | zero =>
    intro j k s h hk h0 h1
    obtain ⟨k, rfl⟩ : ∃ q, k = q + 1 := ⟨k - 1, by omega⟩
    rw [pack_total.lo0, if_neg (by omega), List.drop_eq_nil_of_le (by omega)]
    rfl
  | succ d ih =>
    intro j k s h hk h0 h1
    obtain ⟨k, rfl⟩ : ∃ q, k = q + 1 := ⟨k - 1, by omega⟩
    rw [pack_total.lo0, if_pos (by omega), if_pos (by omega), drop_at l j (by omega), next_at j (by omega), totv, wrap64_id (n := 32 - s) (by omega) (by omega)]
    by_cases h2 : rd l j < 1
    · rw [if_pos h2, if_pos (.inl h2)]; rfl
    · rw [if_neg h2]
      by_cases h3 : rd l j > 32 - s
      · rw [if_pos h3, if_pos (.inr h3)]; rfl
      · rw [if_neg h3, if_neg (by omega), wrap64_id (by omega) (by omega)]
        exact ih (j + 1) k _ (by omega) (by omega) (by omega) (by omega)
theorem total_eq (k : Nat) (l : List Int) (hl : l.length ≤ 100) (hk : 200 ≤ k) : pack_total.f k l = some ((totv 0 l).getD (-1)) := by
  unfold pack_total.f
  have := total_loop l (by omega) l.length 0 k 0 (by omega) (by omega) (by omega) (by omega)
  rw [show ((0 : Nat) : Int) = 0 from rfl, List.drop_zero] at this
  rw [this]
  cases totv 0 l <;> rfl
def rightv : Option Int → Lp Unit Bool
  | some _ => .out ()
  | none => .ret false
theorem Right_loop (l : List Int) (hl : l.length < 1000) : ∀ (d j k : Nat) (s : Int), j + d = l.length → d < k → 0 ≤ s → s ≤ 32 → quitrentref01_Right.lo0 k l s j = some (rightv (totv s (l.drop j))) := by
  intro d
  induction d with
  | zero =>
    intro j k s h hk h0 h1
    obtain ⟨k, rfl⟩ : ∃ q, k = q + 1 := ⟨k - 1, by omega⟩
    rw [quitrentref01_Right.lo0, if_neg (by omega), List.drop_eq_nil_of_le (by omega)]
    rfl
  | succ d ih =>
    intro j k s h hk h0 h1
    obtain ⟨k, rfl⟩ : ∃ q, k = q + 1 := ⟨k - 1, by omega⟩
    rw [quitrentref01_Right.lo0, if_pos (by omega), if_pos (by omega), drop_at l j (by omega), next_at j (by omega), totv, wrap64_id (n := 32 - s) (by omega) (by omega)]
    by_cases h2 : rd l j < 1
    · rw [if_pos h2, if_pos (.inl h2)]; rfl
    · rw [if_neg h2]
      by_cases h3 : rd l j > 32 - s
      · rw [if_pos h3, if_pos (.inr h3)]; rfl
      · rw [if_neg h3, if_neg (by omega), wrap64_id (by omega) (by omega)]
        exact ih (j + 1) k _ (by omega) (by omega) (by omega) (by omega)
theorem Right_eq (k : Nat) (l : List Int) (hl : l.length ≤ 100) (hk : 200 ≤ k) : quitrentref01_Right.f k l = some (totv 0 l).isSome := by
  unfold quitrentref01_Right.f
  have := Right_loop l (by omega) l.length 0 k 0 (by omega) (by omega) (by omega) (by omega)
  rw [show ((0 : Nat) : Int) = 0 from rfl, List.drop_zero] at this
  rw [this]
  cases totv 0 l <;> rfl
/-- A number's pieces. -/
def sp (x : Nat) : List Int → List Int
  | [] => []
  | n :: l => ((x % 2 ^ n.toNat : Nat) : Int) :: sp (x / 2 ^ n.toNat) l
theorem sp_length : ∀ (x : Nat) (l : List Int), (sp x l).length = l.length
  | _, [] => rfl
  | x, n :: l => by simp only [sp, List.length_cons, sp_length]
theorem get_sp (w : Nat) {at_ n : Int} (h0 : 0 ≤ at_) (hn : 1 ≤ n) : w / 2 ^ (at_ + n).toNat = w / 2 ^ at_.toNat / 2 ^ n.toNat := by
  rw [show (at_ + n).toNat = at_.toNat + n.toNat by omega, Nat.pow_add, Nat.div_div_eq_div_mul]
theorem split_loop (w : Nat) (hw : w < 4294967296) (l : List Int) (hl : l.length ≤ 100) (t : Int) : ∀ (d j k : Nat) (at_ : Int) (acc : List Int), j + d = l.length → d + 100 < k → 0 ≤ at_ → at_ ≤ 32 → totv at_ (l.drop j) = some t → acc.length = j →
    pack_Split.lo0 k w l acc at_ j = some (acc ++ sp (w / 2 ^ at_.toNat) (l.drop j)) := by
  intro d
  induction d with
  | zero =>
    intro j k a acc h hk h0 h1 ht hj
    obtain ⟨k, rfl⟩ : ∃ q, k = q + 1 := ⟨k - 1, by omega⟩
    rw [pack_Split.lo0, if_neg (by omega), List.drop_eq_nil_of_le (by omega)]
    simp [sp]
  | succ d ih =>
    intro j k a acc h hk h0 h1 ht hj
    obtain ⟨k, rfl⟩ : ∃ q, k = q + 1 := ⟨k - 1, by omega⟩
    rw [drop_at l j (by omega)] at ht ⊢
    obtain ⟨n1, n2, ht'⟩ := tot_cons ht
    rw [pack_Split.lo0, if_pos (by omega), if_pos (by omega), get_eq w hw, if_pos (show piecev a (rd l j) by unfold piecev; omega), next_at j (by omega)]
    simp only [Option.bind_some]
    rw [if_pos (by omega), wrap64_id (n := a + rd l j) (by omega) (by omega), ih (j + 1) k (a + rd l j) _ (by omega) (by omega) (by omega) (by omega) ht' (by simp [hj]), get_sp w h0 n1]
    simp [sp, getN]
theorem Split_loop (w : Nat) (hw : w < 4294967296) (l : List Int) (hl : l.length ≤ 100) (t : Int) : ∀ (d j k : Nat) (at_ : Int) (acc : List Int), j + d = l.length → d + 100 < k → 0 ≤ at_ → at_ ≤ 32 → totv at_ (l.drop j) = some t → acc.length = j →
    quitrentref01_Split.lo0 k w l at_ acc j = some (t, acc ++ sp (w / 2 ^ at_.toNat) (l.drop j)) := by
  intro d
  induction d with
  | zero =>
    intro j k a acc h hk h0 h1 ht hj
    obtain ⟨k, rfl⟩ : ∃ q, k = q + 1 := ⟨k - 1, by omega⟩
    rw [List.drop_eq_nil_of_le (by omega)] at ht ⊢
    simp only [totv, Option.some.injEq] at ht
    rw [quitrentref01_Split.lo0, if_neg (by omega)]
    simp [sp, ht]
  | succ d ih =>
    intro j k a acc h hk h0 h1 ht hj
    obtain ⟨k, rfl⟩ : ∃ q, k = q + 1 := ⟨k - 1, by omega⟩
    rw [drop_at l j (by omega)] at ht ⊢
    obtain ⟨n1, n2, ht'⟩ := tot_cons ht
    rw [quitrentref01_Split.lo0, if_pos (by omega), if_pos (by omega), Get_eq k (by omega) w hw, if_pos (show piecev a (rd l j) by unfold piecev; omega), next_at j (by omega)]
    simp only [Option.bind_some]
    rw [if_pos (by omega), wrap64_id (n := a + rd l j) (by omega) (by omega), ih (j + 1) k (a + rd l j) _ (by omega) (by omega) (by omega) (by omega) ht' (by simp [hj]), get_sp w h0 n1]
    simp [sp, getN]
def splitv (w : Nat) (l : List Int) : List Int × Int :=
  match totv 0 l with
  | none => ([], 2)
  | some t => if fitsv w t then (sp w l, 0) else ([], 15)
theorem split_eq (w : Nat) (hw : w < 4294967296) (l : List Int) (hl : l.length ≤ 100) : pack_Split.f 300 w l = some (splitv w l) := by
  unfold pack_Split.f splitv
  rw [total_eq 300 l hl (by omega)]
  simp only [Option.bind_some]
  cases ht : totv 0 l with
  | none => rfl
  | some t =>
    have hb := tot_bounds l 0 t ht (by omega)
    simp only [Option.getD_some]
    rw [if_neg (by omega), fits_eq w hw t (by omega) (by omega)]
    simp only [Option.bind_some, decide_eq_true_eq]
    by_cases hf : fitsv w t
    · rw [if_pos hf, if_pos hf]
      have := split_loop w hw l hl t l.length 0 300 0 [] (by omega) (by omega) (by omega) (by omega) (by simpa using ht) rfl
      rw [show ((0 : Nat) : Int) = 0 from rfl] at this
      rw [this]
      simp
    · rw [if_neg hf, if_neg hf]
theorem Split_eq (w : Nat) (hw : w < 4294967296) (l : List Int) (hl : l.length ≤ 100) : quitrentref01_Split.f 300 w l = some (splitv w l) := by
  unfold quitrentref01_Split.f splitv
  rw [Right_eq 300 l hl (by omega)]
  simp only [Option.bind_some]
  cases ht : totv 0 l with
  | none => rfl
  | some t =>
    have hb := tot_bounds l 0 t ht (by omega)
    have := Split_loop w hw l hl t l.length 0 300 0 [] (by omega) (by omega) (by omega) (by omega) (by simpa using ht) rfl
    rw [show ((0 : Nat) : Int) = 0 from rfl] at this
    simp only [Option.isSome_some, if_true]
    rw [this]
    simp only [Option.bind_some]
    rw [Fits_eq 300 (by omega) w hw]
    simp only [Option.bind_some, decide_eq_true_eq]
    by_cases hf : fitsv w t
    · rw [if_pos hf, if_pos hf]; simp
    · rw [if_neg hf, if_neg hf]
/-- The word of some pieces. -/
def jn : List Int → List Int → Nat
  | v :: l, n :: ws => v.toNat + 2 ^ n.toNat * jn l ws
  | _, _ => 0
def fitsAll : List Int → List Int → Bool
  | v :: l, n :: ws => decide (fitsv v.toNat n) && fitsAll l ws
  | _, _ => true
def small (l : List Int) : Prop := ∀ x ∈ l, 0 ≤ x ∧ x < 4294967296
theorem small_at {l : List Int} (h : small l) (j : Nat) (hj : j < l.length) : 0 ≤ rd l j ∧ rd l j < 4294967296 := by
  rw [rd_at l j hj]; exact h _ (List.getElem_mem hj)
theorem put_new {x at_ n v : Nat} (hx : x < 2 ^ at_) (hv : v < 2 ^ n) : putN x at_ n v = x + v * 2 ^ at_ ∧ x + v * 2 ^ at_ < 2 ^ (at_ + n) := by
  have h := put_sum x at_ n v
  have hg : getN x at_ n = 0 := by unfold getN; rw [Nat.div_eq_of_lt hx]; exact Nat.zero_mod _
  rw [hg] at h
  refine ⟨by omega, ?_⟩
  have h2 : (v + 1) * 2 ^ at_ ≤ 2 ^ n * 2 ^ at_ := Nat.mul_le_mul_right _ hv
  rw [Nat.pow_add, Nat.mul_comm (2 ^ at_)]
  rw [Nat.add_mul] at h2
  omega
theorem join_step (x at_ n v J : Nat) : x + v * 2 ^ at_ + 2 ^ (at_ + n) * J = x + 2 ^ at_ * (v + 2 ^ n * J) := by
  rw [Nat.pow_add, Nat.mul_add, Nat.mul_comm v, Nat.mul_assoc]; omega
theorem join_loop (l ws : List Int) (hl : l.length = ws.length) (hw : ws.length ≤ 100) (hs : small l) (t : Int) : ∀ (d j k x : Nat) (at_ : Nat), j + d = ws.length → d + 100 < k → x < 2 ^ at_ → at_ ≤ 32 → totv at_ (ws.drop j) = some t →
    pack_Join.lo0 k l ws x at_ j = some (if fitsAll (l.drop j) (ws.drop j) = true then .out ((x + 2 ^ at_ * jn (l.drop j) (ws.drop j) : Nat) : Int) else .ret (0, 15)) := by
  intro d
  induction d with
  | zero =>
    intro j k x a h hk hx h1 ht
    obtain ⟨k, rfl⟩ : ∃ q, k = q + 1 := ⟨k - 1, by omega⟩
    rw [pack_Join.lo0, if_neg (by omega), List.drop_eq_nil_of_le (as := l) (by omega), List.drop_eq_nil_of_le (by omega)]
    simp [fitsAll, jn]
  | succ d ih =>
    intro j k x a h hk hx h1 ht
    obtain ⟨k, rfl⟩ : ∃ q, k = q + 1 := ⟨k - 1, by omega⟩
    rw [drop_at ws j (by omega)] at ht ⊢
    rw [drop_at l j (by omega)]
    obtain ⟨n1, n2, ht'⟩ := tot_cons ht
    have hv := small_at hs j (by omega)
    have hx32 := two_le h1
    rw [pack_Join.lo0, if_pos (by omega), if_pos (by omega), if_pos (by omega), next_at j (by omega)]
    obtain ⟨v, hv'⟩ := Int.eq_ofNat_of_zero_le hv.1
    obtain ⟨n, hn'⟩ := Int.eq_ofNat_of_zero_le (show 0 ≤ rd ws j by omega)
    rw [hv'] at hv ⊢
    rw [hn'] at n1 n2 ht' ⊢
    rw [put_eq x (by omega) a n v (by omega)]
    have hp : piecev (a : Int) (n : Int) := by unfold piecev; omega
    simp only [Option.bind_some, putv, if_pos hp, fitsAll, jn, Int.toNat_natCast]
    by_cases hf : fitsv v n
    · have hvn : v < 2 ^ n := by unfold fitsv at hf; rwa [show capv (n : Int) = n by unfold capv; omega] at hf
      have hpn := put_new hx hvn
      rw [if_pos hf, if_pos rfl, wrap64_id (by omega) (by omega), hpn.1, show (a : Int) + (n : Int) = ((a + n : Nat) : Int) by omega]
      rw [show (a : Int) + (n : Int) = ((a + n : Nat) : Int) by omega] at ht'
      rw [ih (j + 1) k _ (a + n) (by omega) (by omega) hpn.2 (by omega) ht', join_step]
      simp [hf]
    · rw [if_neg hf, if_neg (by decide)]
      simp [hf]
theorem Join_loop (l ws : List Int) (hl : l.length = ws.length) (hw : ws.length ≤ 100) (hs : small l) (t : Int) : ∀ (d j k x : Nat) (at_ : Nat), j + d = ws.length → d + 100 < k → x < 2 ^ at_ → at_ ≤ 32 → totv at_ (ws.drop j) = some t →
    quitrentref01_Join.lo0 k l ws at_ x j = some (if fitsAll (l.drop j) (ws.drop j) = true then .out ((x + 2 ^ at_ * jn (l.drop j) (ws.drop j) : Nat) : Int) else .ret (0, 15)) := by
  intro d
  induction d with
  | zero =>
    intro j k x a h hk hx h1 ht
    obtain ⟨k, rfl⟩ : ∃ q, k = q + 1 := ⟨k - 1, by omega⟩
    rw [quitrentref01_Join.lo0, if_neg (by omega), List.drop_eq_nil_of_le (as := l) (by omega), List.drop_eq_nil_of_le (by omega)]
    simp [fitsAll, jn]
  | succ d ih =>
    intro j k x a h hk hx h1 ht
    obtain ⟨k, rfl⟩ : ∃ q, k = q + 1 := ⟨k - 1, by omega⟩
    rw [drop_at ws j (by omega)] at ht ⊢
    rw [drop_at l j (by omega)]
    obtain ⟨n1, n2, ht'⟩ := tot_cons ht
    have hv := small_at hs j (by omega)
    have hx32 := two_le h1
    rw [quitrentref01_Join.lo0, if_pos (by omega), if_pos (by omega), if_pos (by omega), next_at j (by omega)]
    obtain ⟨v, hv'⟩ := Int.eq_ofNat_of_zero_le hv.1
    obtain ⟨n, hn'⟩ := Int.eq_ofNat_of_zero_le (show 0 ≤ rd ws j by omega)
    rw [hv'] at hv ⊢
    rw [hn'] at n1 n2 ht' ⊢
    rw [Fits_eq k (by omega) v (by omega), power_eq k (by omega)]
    simp only [Option.bind_some, decide_eq_true_eq, fitsAll, jn, Int.toNat_natCast]
    by_cases hf : fitsv v n
    · have hvn : v < 2 ^ n := by unfold fitsv at hf; rwa [show capv (n : Int) = n by unfold capv; omega] at hf
      have hpn := put_new hx hvn
      have hlt := two_le (show a + n ≤ 32 by omega)
      rw [if_pos hf, wrap64_id (by omega) (by omega), show (a : Int) + (n : Int) = ((a + n : Nat) : Int) by omega]
      rw [show (a : Int) + (n : Int) = ((a + n : Nat) : Int) by omega] at ht'
      have e : IntKind.u64.wrap ((x : Int) + IntKind.u64.wrap (IntKind.u64.wrap (v : Int) * ((2 ^ capv (a : Int) : Nat) : Int))) = ((x + v * 2 ^ a : Nat) : Int) := by
        rw [show capv (a : Int) = a by unfold capv; omega, w64 (n := (v : Int)) (by omega) (by omega), ← Int.natCast_mul]
        generalize v * 2 ^ a = y at *
        rw [w64 (n := (y : Int)) (by omega) (by omega), w64 (by omega) (by omega)]
        omega
      rw [e, ih (j + 1) k _ (a + n) (by omega) (by omega) hpn.2 (by omega) ht', join_step]
      simp [hf]
    · rw [if_neg hf]
      simp [hf]
theorem jn_lt : ∀ (l ws : List Int) (s t : Nat), l.length = ws.length → s ≤ 32 → totv s ws = some t → fitsAll l ws = true → jn l ws < 2 ^ (t - s)
  | [], [], s, t, _, _, _, _ => by simp only [jn]; exact Nat.two_pow_pos _
  | v :: l, n :: ws, s, t, hl, hs, ht, hf => by
    obtain ⟨n1, n2, ht'⟩ := tot_cons ht
    obtain ⟨n, rfl⟩ := Int.eq_ofNat_of_zero_le (show 0 ≤ n by omega)
    simp only [fitsAll, Bool.and_eq_true, decide_eq_true_eq] at hf
    rw [show (s : Int) + (n : Int) = ((s + n : Nat) : Int) by omega] at ht'
    have hb := tot_bounds ws _ _ ht' (by omega)
    have ih := jn_lt l ws (s + n) t (by simpa using hl) (by omega) ht' hf.2
    have hv : v.toNat < 2 ^ n := by have := hf.1; unfold fitsv at this; rwa [show capv (n : Int) = n by unfold capv; omega] at this
    simp only [jn, Int.toNat_natCast]
    have e : 2 ^ (t - s) = 2 ^ n * 2 ^ (t - (s + n)) := by rw [← Nat.pow_add]; congr 1; omega
    rw [e]
    have h2 : 2 ^ n * (jn l ws + 1) ≤ 2 ^ n * 2 ^ (t - (s + n)) := Nat.mul_le_mul_left _ ih
    rw [Nat.mul_add] at h2
    omega
def joinv (l ws : List Int) : Int × Int :=
  match totv 0 ws with
  | none => (0, 2)
  | some _ => if l.length = ws.length then (if fitsAll l ws = true then (((jn l ws : Nat) : Int), 0) else (0, 15)) else (0, 2)
theorem jn_top {l ws : List Int} {t : Int} (hl : l.length = ws.length) (ht : totv 0 ws = some t) (hf : fitsAll l ws = true) : jn l ws < 2 ^ t.toNat ∧ jn l ws < 4294967296 := by
  have hb := tot_bounds ws 0 t ht (by omega)
  obtain ⟨t, rfl⟩ := Int.eq_ofNat_of_zero_le hb.1
  have := jn_lt l ws 0 t hl (by omega) ht hf
  have h2 := two_le (show t ≤ 32 by omega)
  simp only [Nat.sub_zero] at this
  rw [Int.toNat_natCast]
  exact ⟨this, by omega⟩
theorem join_eq (l ws : List Int) (hs : small l) (hl : ws.length ≤ 100) : pack_Join.f 300 l ws = some (joinv l ws) := by
  unfold pack_Join.f joinv
  rw [total_eq 300 ws hl (by omega)]
  simp only [Option.bind_some]
  cases ht : totv 0 ws with
  | none => rfl
  | some t =>
    have hb := tot_bounds ws 0 t ht (by omega)
    simp only [Option.getD_some]
    rw [if_neg (by omega)]
    by_cases he : l.length = ws.length
    · rw [if_pos (by omega), if_pos he]
      have := join_loop l ws he hl hs t ws.length 0 300 0 0 (by omega) (by omega) (by decide) (by omega) (by simpa using ht)
      rw [show ((0 : Nat) : Int) = 0 from rfl] at this
      rw [this]
      simp only [Option.bind_some, List.drop_zero, Nat.zero_add, Nat.pow_zero, Nat.one_mul]
      split <;> rfl
    · rw [if_neg (by omega), if_neg he]
theorem Join_eq (l ws : List Int) (hs : small l) (hl : ws.length ≤ 100) : quitrentref01_Join.f 300 l ws = some (joinv l ws) := by
  unfold quitrentref01_Join.f joinv
  rw [Right_eq 300 ws hl (by omega)]
  simp only [Option.bind_some]
  cases ht : totv 0 ws with
  | none => rfl
  | some t =>
    have hb := tot_bounds ws 0 t ht (by omega)
    simp only [Option.isSome_some, if_true]
    by_cases he : l.length = ws.length
    · rw [if_pos (by omega), if_pos he]
      have := Join_loop l ws he hl hs t ws.length 0 300 0 0 (by omega) (by omega) (by decide) (by omega) (by simpa using ht)
      rw [show ((0 : Nat) : Int) = 0 from rfl] at this
      rw [this]
      simp only [Option.bind_some, List.drop_zero, Nat.zero_add, Nat.pow_zero, Nat.one_mul]
      by_cases hf : fitsAll l ws = true
      · have := jn_top he ht hf
        rw [if_pos hf, if_pos hf]
        simp only [Lp.elim]
        congr 2
        omega
      · rw [if_neg hf, if_neg hf]; rfl
    · rw [if_neg (by omega), if_neg he]
theorem Same_loop (a b : List Int) (hl : a.length = b.length) (ha : a.length < 1000) : ∀ (d j k : Nat), j + d = a.length → d < k → quitrentref01_Same.lo0 k a b j = some (if a.drop j = b.drop j then .out () else .ret false) := by
  intro d
  induction d with
  | zero =>
    intro j k h hk
    obtain ⟨k, rfl⟩ : ∃ q, k = q + 1 := ⟨k - 1, by omega⟩
    rw [quitrentref01_Same.lo0, if_neg (by omega), List.drop_eq_nil_of_le (by omega), List.drop_eq_nil_of_le (by omega), if_pos rfl]
  | succ d ih =>
    intro j k h hk
    obtain ⟨k, rfl⟩ : ∃ q, k = q + 1 := ⟨k - 1, by omega⟩
    rw [quitrentref01_Same.lo0, if_pos (by omega), if_pos (by omega), if_pos (by omega), next_at j (by omega), drop_at a j (by omega), drop_at b j (by omega), ih (j + 1) k (by omega) (by omega)]
    by_cases he : rd a j = rd b j
    · rw [if_pos he]; simp [he]
    · rw [if_neg he]; simp [he]
theorem Same_eq (a b : List Int) (ha : a.length ≤ 100) : quitrentref01_Same.f 300 a b = some (decide (a = b)) := by
  unfold quitrentref01_Same.f
  by_cases hl : a.length = b.length
  · have := Same_loop a b hl (by omega) a.length 0 300 (by omega) (by omega)
    rw [show ((0 : Nat) : Int) = 0 from rfl, List.drop_zero, List.drop_zero] at this
    rw [if_pos (by omega), this]
    simp only [Option.bind_some]
    by_cases he : a = b
    · rw [if_pos he]; simp [he, Lp.elim]
    · rw [if_neg he]; simp [he, Lp.elim]
  · rw [if_neg (by omega)]
    congr 1
    exact (decide_eq_false (fun e => hl (by rw [e]))).symm
theorem small_of {l : List Int} (h : ∀ x ∈ l, (Lit.int .u32 x).wf = true) : small l := fun x hx => by
  have := h x hx
  rw [Lit.wf_int_iff] at this
  have q0 : 0 ≤ x := this.1
  have q1 : x ≤ 4294967295 := this.2
  exact ⟨q0, by omega⟩
theorem split_len (w : Nat) (l : List Int) (hl : l.length ≤ 100) : (splitv w l).1.length ≤ 100 := by
  unfold splitv
  cases totv 0 l with
  | none => simp
  | some t =>
    simp only []
    split
    · simp only [sp_length]; exact hl
    · simp
theorem PackSplits (a0 : Int) (l1 l2 : List Int) (h0 : (Lit.int .u32 a0).wf = true) (_ : l1.length ≤ maxLen) (_ : l1.length * 4 ≤ 140737488351232) (hw1 : ∀ x ∈ l1, (Lit.int .u32 x).wf = true) (_ : l2.length ≤ maxLen) (_ : l2.length * 8 ≤ 140737488351232) (_ : ∀ x ∈ l2, (Lit.int .i64 x).wf = true) :
    ∃ k, quitrentlaw01_PackSplits.f k a0 l1 l2 = some true := by
  refine ⟨300, ?_⟩
  rw [Lit.wf_int_iff] at h0
  have q0 : 0 ≤ a0 := h0.1
  have q1 : a0 ≤ 4294967295 := h0.2
  obtain ⟨w, rfl⟩ := Int.eq_ofNat_of_zero_le q0
  unfold quitrentlaw01_PackSplits.f
  by_cases c1 : (l1.length : Int) > 100
  · rw [if_pos c1, begun_eq]; rfl
  · rw [if_neg c1]
    by_cases c2 : (l2.length : Int) > 100
    · rw [if_pos c2, begun_eq]; rfl
    · rw [if_neg c2]
      simp only [split_eq w (by omega) l2 (by omega), Split_eq w (by omega) l2 (by omega), join_eq l1 l2 (small_of hw1) (by omega), Join_eq l1 l2 (small_of hw1) (by omega), begun_eq, Same_eq _ _ (split_len w l2 (by omega)), Option.bind_some, if_true, decide_true, beq_self_eq_true]
/-! ### back and forth -/
theorem sp_jn : ∀ (l ws : List Int) (s t : Int), l.length = ws.length → 0 ≤ s → s ≤ 32 → small l → totv s ws = some t → fitsAll l ws = true → sp (jn l ws) ws = l
  | [], [], _, _, _, _, _, _, _, _ => rfl
  | v :: l, n :: ws, s, t, hl, h0, hs, hsm, ht, hf => by
    obtain ⟨n1, n2, ht'⟩ := tot_cons ht
    simp only [fitsAll, Bool.and_eq_true, decide_eq_true_eq] at hf
    have hv : v.toNat < 2 ^ n.toNat := by have := hf.1; unfold fitsv at this; rwa [show capv n = n.toNat by unfold capv; omega] at this
    have hv0 := hsm v (by simp)
    have ih := sp_jn l ws (s + n) t (by simpa using hl) (by omega) (by omega) (fun x hx => hsm x (by simp [hx])) ht' hf.2
    simp only [jn, sp]
    rw [Nat.add_mul_mod_self_left, Nat.mod_eq_of_lt hv, Nat.add_mul_div_left _ _ (Nat.two_pow_pos _), Nat.div_eq_of_lt hv, Nat.zero_add, ih, Int.toNat_of_nonneg hv0.1]
theorem pc_add : ∀ (n v J : Nat), v < 2 ^ n → pc (v + 2 ^ n * J) = pc v + pc J
  | 0, v, J, h => by
    obtain rfl : v = 0 := by have : 2 ^ 0 = 1 := rfl; omega
    simp [pc]
  | n + 1, v, J, h => by
    have hp : 2 ^ (n + 1) = 2 * 2 ^ n := by rw [Nat.pow_succ]; omega
    rw [pc_eq (v + _), pc_eq v, hp, Nat.mul_assoc, show (v + 2 * (2 ^ n * J)) % 2 = v % 2 by omega, show (v + 2 * (2 ^ n * J)) / 2 = v / 2 + 2 ^ n * J by omega, pc_add n (v / 2) J (by omega)]
    omega
def psum : List Int → Nat
  | [] => 0
  | v :: l => pc v.toNat + psum l
theorem pc_jn : ∀ (l ws : List Int) (s t : Int), l.length = ws.length → 0 ≤ s → s ≤ 32 → totv s ws = some t → fitsAll l ws = true → pc (jn l ws) = psum l
  | [], [], _, _, _, _, _, _, _ => by simp [jn, psum, pc]
  | v :: l, n :: ws, s, t, hl, h0, hs, ht, hf => by
    obtain ⟨n1, n2, ht'⟩ := tot_cons ht
    simp only [fitsAll, Bool.and_eq_true, decide_eq_true_eq] at hf
    have hv : v.toNat < 2 ^ n.toNat := by have := hf.1; unfold fitsv at this; rwa [show capv n = n.toNat by unfold capv; omega] at this
    simp only [jn, psum]
    rw [pc_add _ _ _ hv, pc_jn l ws (s + n) t (by simpa using hl) (by omega) (by omega) ht' hf.2]
theorem sums_loop (l : List Int) (hs : small l) (hl : l.length ≤ 100) : ∀ (d j k : Nat) (c : Int), j + d = l.length → d + 100 < k → 0 ≤ c → c ≤ 32 * j → quitrentlaw01_PackBack.lo0 k l c j = some (c + psum (l.drop j)) := by
  intro d
  induction d with
  | zero =>
    intro j k c h hk h0 h1
    obtain ⟨k, rfl⟩ : ∃ q, k = q + 1 := ⟨k - 1, by omega⟩
    rw [quitrentlaw01_PackBack.lo0, if_neg (by omega), List.drop_eq_nil_of_le (by omega)]
    simp [psum]
  | succ d ih =>
    intro j k c h hk h0 h1
    obtain ⟨k, rfl⟩ : ∃ q, k = q + 1 := ⟨k - 1, by omega⟩
    have hv := small_at hs j (by omega)
    rw [quitrentlaw01_PackBack.lo0, if_pos (by omega), if_pos (by omega), drop_at l j (by omega), next_at j (by omega)]
    obtain ⟨v, hv'⟩ := Int.eq_ofNat_of_zero_le hv.1
    rw [hv'] at hv ⊢
    have hp := pc_pow 32 v (by omega)
    rw [ones_eq k (by omega) v (by omega)]
    simp only [Option.bind_some, psum, Int.toNat_natCast]
    rw [wrap64_id (by omega) (by omega), ih (j + 1) k _ (by omega) (by omega) (by omega) (by omega)]
    congr 1
    omega
theorem jn_sp : ∀ (ws : List Int) (x s t : Nat), s ≤ 32 → totv s ws = some t → x < 2 ^ (t - s) → jn (sp x ws) ws = x ∧ fitsAll (sp x ws) ws = true ∧ small (sp x ws)
  | [], x, s, t, _, ht, hx => by
    have ht2 : (s : Int) = t := Option.some.inj ht
    have : x = 0 := by rw [show t - s = 0 by omega] at hx; have : 2 ^ 0 = 1 := rfl; omega
    simp [jn, sp, fitsAll, small, this]
  | n :: ws, x, s, t, hs, ht, hx => by
    obtain ⟨n1, n2, ht'⟩ := tot_cons ht
    obtain ⟨n, rfl⟩ := Int.eq_ofNat_of_zero_le (show 0 ≤ n by omega)
    rw [show (s : Int) + (n : Int) = ((s + n : Nat) : Int) by omega] at ht'
    have hb := tot_bounds ws _ _ ht' (by omega)
    have hm : x % 2 ^ n < 2 ^ n := Nat.mod_lt _ (Nat.two_pow_pos n)
    have h32 := two_le (show n ≤ 32 by omega)
    have e : 2 ^ (t - s) = 2 ^ n * 2 ^ (t - (s + n)) := by rw [← Nat.pow_add]; congr 1; omega
    rw [e] at hx
    have ih := jn_sp ws (x / 2 ^ n) (s + n) t (by omega) ht' (Nat.div_lt_of_lt_mul hx)
    simp only [jn, sp, fitsAll, Int.toNat_natCast]
    refine ⟨?_, ?_, ?_⟩
    · rw [ih.1]; exact Nat.mod_add_div x (2 ^ n)
    · rw [ih.2.1, Bool.and_true, decide_eq_true_eq]; unfold fitsv; rwa [show capv (n : Int) = n by unfold capv; omega]
    · intro y hy
      rcases List.mem_cons.1 hy with rfl | hy
      · generalize x % 2 ^ n = z at *; omega
      · exact ih.2.2 y hy
theorem PackBack (a0 : Int) (l1 l2 : List Int) (h0 : (Lit.int .u32 a0).wf = true) (_ : l1.length ≤ maxLen) (_ : l1.length * 4 ≤ 140737488351232) (hw1 : ∀ x ∈ l1, (Lit.int .u32 x).wf = true) (_ : l2.length ≤ maxLen) (_ : l2.length * 8 ≤ 140737488351232) (_ : ∀ x ∈ l2, (Lit.int .i64 x).wf = true) :
    ∃ k, quitrentlaw01_PackBack.f k a0 l1 l2 = some true := by
  refine ⟨300, ?_⟩
  rw [Lit.wf_int_iff] at h0
  have q0 : 0 ≤ a0 := h0.1
  have q1 : a0 ≤ 4294967295 := h0.2
  obtain ⟨w, rfl⟩ := Int.eq_ofNat_of_zero_le q0
  have hs := small_of hw1
  unfold quitrentlaw01_PackBack.f
  by_cases c1 : (l1.length : Int) > 100
  · rw [if_pos c1, begun_eq]; rfl
  · rw [if_neg c1]
    by_cases c2 : (l2.length : Int) > 100
    · rw [if_pos c2, begun_eq]; rfl
    · rw [if_neg c2]
      -- the word, split and joined
      have tail : ((pack_Split.f 300 w l2).bind fun t => if t.2 = 0 then ((pack_Join.f 300 t.1 l2).bind fun u => if u.2 = 0 then (if u.1 = (w : Int) then ((quitrentlaw01_begun.f 300).bind fun b => some b) else (some false)) else (some false)) else ((quitrentlaw01_begun.f 300).bind fun b => some b)) = some true := by
        rw [split_eq w (by omega) l2 (by omega)]
        simp only [Option.bind_some, splitv]
        cases ht : totv 0 l2 with
        | none => simp only []; rw [if_neg (by decide), begun_eq]; rfl
        | some t =>
          simp only []
          have hb := tot_bounds l2 0 t ht (by omega)
          obtain ⟨t, rfl⟩ := Int.eq_ofNat_of_zero_le hb.1
          by_cases hf : fitsv w t
          · have hx : w < 2 ^ (t - 0) := by unfold fitsv at hf; rwa [show capv (t : Int) = t - 0 by unfold capv; omega] at hf
            have hj := jn_sp l2 w 0 t (by omega) ht hx
            rw [if_pos hf]
            simp only [if_true]
            rw [join_eq _ l2 hj.2.2 (by omega)]
            simp only [Option.bind_some, joinv, ht, sp_length, if_true, hj.1, hj.2.1, begun_eq]
          · rw [if_neg hf]; simp only []; rw [if_neg (by decide), begun_eq]; rfl
      rw [join_eq l1 l2 hs (by omega)]
      simp only [Option.bind_some]
      by_cases hok : (joinv l1 l2).2 = 0
      · rw [if_pos hok]
        unfold joinv at hok ⊢
        cases ht : totv 0 l2 with
        | none => rw [ht] at hok; simp at hok
        | some t =>
          rw [ht] at hok
          simp only [] at hok ⊢
          by_cases he : l1.length = l2.length
          · rw [if_pos he] at hok
            by_cases hf : fitsAll l1 l2 = true
            · have hj := jn_top he ht hf
              have hb := tot_bounds l2 0 t ht (by omega)
              have hfit : fitsv (jn l1 l2) t := by unfold fitsv; rw [show capv t = t.toNat by unfold capv; omega]; exact hj.1
              have hsp : splitv (jn l1 l2) l2 = (l1, 0) := by
                unfold splitv; rw [ht]; simp only []; rw [if_pos hfit, sp_jn l1 l2 0 t he (by omega) (by omega) hs ht hf]
              have hsum := sums_loop l1 hs (by omega) l1.length 0 300 0 (by omega) (by omega) (by omega) (by omega)
              rw [show ((0 : Nat) : Int) = 0 from rfl, List.drop_zero] at hsum
              simp only [if_pos he, if_pos hf]
              rw [split_eq _ hj.2 l2 (by omega), hsp, hsum]
              simp only [Option.bind_some, if_true, Same_eq l1 l1 (by omega), decide_true, ones_eq 300 (by omega) _ hj.2, pc_jn l1 l2 0 t he (by omega) (by omega) ht hf, Int.zero_add]
              exact tail
            · rw [if_neg hf] at hok; simp at hok
          · rw [if_neg he] at hok; simp at hok
      · rw [if_neg hok]; exact tail
end Go.Proofs.Ytgkpcboaiaiahaa.V
