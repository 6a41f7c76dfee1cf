/- The laws of the group T on the plain functions. No condition. -/
import Derived.Test.YtgkpcboaiaiahabDoorMT
import Derived.DataShut
import Derived.Laws.Bits64
import Derived.Laws.BitsLemmas
import Derived.RowKit
namespace Go.Proofs.YtgkpcboaiaiahabDoor.V
open Go.RowKit Go.Proofs.YtgkpcboaiaiahabDoor.C Go.Proofs.YtgkpcboaiaiahabDoor.M Go.Proofs.YtgkpcboaiaiahabDoorW.PrintWords

/-- popcount -/
def pc : Nat → Nat
  | 0 => 0
  | n + 1 => (n + 1) % 2 + pc ((n + 1) / 2)
termination_by n => n
decreasing_by omega

theorem pc_eq (n : Nat) : pc n = n % 2 + pc (n / 2) := by
  cases n with
  | zero => simp [pc]
  | succ n => rw [pc]

theorem and_pred_even (y : Nat) (h : 0 < y) : (2 * y) &&& (2 * y - 1) = 2 * (y &&& (y - 1)) := by
  have e : 2 * y - 1 = 2 * (y - 1) + 1 := by omega
  rw [e]
  apply Nat.eq_of_testBit_eq
  intro i
  cases i with
  | zero => simp [Nat.testBit_zero]
  | succ i =>
    rw [Nat.testBit_and, Nat.testBit_succ, Nat.testBit_succ, Nat.testBit_succ, show 2 * y / 2 = y by omega, show (2 * (y - 1) + 1) / 2 = y - 1 by omega, show 2 * (y &&& (y - 1)) / 2 = y &&& (y - 1) by omega, Nat.testBit_and]
theorem and_pred_odd (y : Nat) : (2 * y + 1) &&& (2 * y) = 2 * y := by
  apply Nat.eq_of_testBit_eq
  intro i
  cases i with
  | zero => simp [Nat.testBit_zero]
  | succ i =>
    rw [Nat.testBit_and, Nat.testBit_succ, Nat.testBit_succ, show 2 * y / 2 = y by omega, show (2 * y + 1) / 2 = y by omega, Bool.and_self]
theorem pc_double (n : Nat) : pc (2 * n) = pc n := by
  rw [pc_eq]; simp
theorem pc_double1 (n : Nat) : pc (2 * n + 1) = pc n + 1 := by
  rw [pc_eq, show (2 * n + 1) % 2 = 1 by omega, show (2 * n + 1) / 2 = n by omega]; omega
theorem pc_and_pred : ∀ n : Nat, 0 < n → pc (n &&& (n - 1)) + 1 = pc n := by
  intro n
  induction n using Nat.strongRecOn with
  | _ n ih =>
    intro h
    rcases Nat.mod_two_eq_zero_or_one n with e | e
    · obtain ⟨y, rfl⟩ : ∃ y, n = 2 * y := ⟨n / 2, by omega⟩
      rw [and_pred_even y (by omega), pc_double, pc_double, ih y (by omega) (by omega)]
    · obtain ⟨y, rfl⟩ : ∃ y, n = 2 * y + 1 := ⟨n / 2, by omega⟩
      rw [show 2 * y + 1 - 1 = 2 * y by omega, and_pred_odd, pc_double, pc_double1]
theorem and_pred_lt (n : Nat) (h : 0 < n) : n &&& (n - 1) < n := by
  have := @Nat.and_le_right n (n - 1)
  omega
theorem pc_pow (k n : Nat) (h : n < 2 ^ k) : pc n ≤ k := by
  induction k generalizing n with
  | zero => simp at h; subst h; simp [pc]
  | succ k ih =>
    rw [pc_eq]
    have := ih (n / 2) (by rw [Nat.pow_succ] at h; omega)
    omega

theorem u32_and (a b : Nat) (ha : a < 2 ^ 32) (hb : b < 2 ^ 32) : bits .and .u32 a b = ((a &&& b : Nat) : Int) :=
  (bits_nat .u32 32 (by decide) (fun n h0 h1 => by rw [IntKind.wrap_u32]; omega) a b ha hb).1
theorem u32_or (a b : Nat) (ha : a < 2 ^ 32) (hb : b < 2 ^ 32) : bits .or .u32 a b = ((a ||| b : Nat) : Int) :=
  (bits_nat .u32 32 (by decide) (fun n h0 h1 => by rw [IntKind.wrap_u32]; omega) a b ha hb).2
theorem wrap64_id {n : Int} (h0 : -9223372036854775808 ≤ n) (h1 : n ≤ 9223372036854775807) : wrap64 n = n := by unfold wrap64; omega

def getN (w a n : Nat) : Nat := w / 2 ^ a % 2 ^ n
def putN (w a n v : Nat) : Nat := 2 ^ a * (2 ^ n * (w / 2 ^ (a + n)) + v) + w % 2 ^ a

theorem getN_bit (w a n j : Nat) : (getN w a n).testBit j = (decide (j < n) && w.testBit (a + j)) := by
  unfold getN; rw [Nat.testBit_mod_two_pow, Nat.testBit_div_two_pow, Nat.add_comm]
theorem getN_lt (w a n : Nat) : getN w a n < 2 ^ n := Nat.mod_lt _ (Nat.two_pow_pos n)
theorem putN_bit (w a n v j : Nat) (hv : v < 2 ^ n) : (putN w a n v).testBit j = if j < a then w.testBit j else if j < a + n then v.testBit (j - a) else w.testBit j := by
  unfold putN
  rw [Nat.testBit_two_pow_mul_add _ (Nat.mod_lt _ (Nat.two_pow_pos a))]
  split
  · rename_i h; rw [Nat.testBit_mod_two_pow]; simp [h]
  · rename_i h
    rw [Nat.testBit_two_pow_mul_add _ hv]
    by_cases h2 : j < a + n
    · rw [if_pos (by omega), if_pos h2]
    · rw [if_neg (by omega), if_neg h2, Nat.testBit_div_two_pow]; congr 1; omega
theorem bit_big {v n j : Nat} (hv : v < 2 ^ n) (h : n ≤ j) : v.testBit j = false := Nat.testBit_lt_two_pow (Nat.lt_of_lt_of_le hv (Nat.pow_le_pow_right (by decide) h))
theorem putN_lt (w a n v m : Nat) (hv : v < 2 ^ n) (hw : w < 2 ^ m) (h : a + n ≤ m) : putN w a n v < 2 ^ m := by
  apply Nat.lt_pow_two_of_testBit
  intro j hj
  rw [putN_bit _ _ _ _ _ hv, if_neg (by omega), if_neg (by omega)]
  exact bit_big hw hj
theorem get_put (w a n v : Nat) (hv : v < 2 ^ n) : getN (putN w a n v) a n = v := by
  apply Nat.eq_of_testBit_eq
  intro j
  rw [getN_bit, putN_bit _ _ _ _ _ hv]
  by_cases h : j < n
  · rw [if_neg (by omega), if_pos (by omega)]; simp [h]
  · simp [h, bit_big hv (show n ≤ j by omega)]
theorem get_put_other (w a n v b m : Nat) (hv : v < 2 ^ n) (h : a + n ≤ b ∨ b + m ≤ a) : getN (putN w a n v) b m = getN w b m := by
  apply Nat.eq_of_testBit_eq
  intro j
  rw [getN_bit, getN_bit, putN_bit _ _ _ _ _ hv]
  by_cases hj : j < m
  · rcases h with h | h
    · rw [if_neg (by omega), if_neg (by omega)]
    · rw [if_pos (by omega)]
  · simp [hj]
theorem put_get (w a n v : Nat) (hv : v < 2 ^ n) : putN (putN w a n v) a n (getN w a n) = w := by
  apply Nat.eq_of_testBit_eq
  intro j
  rw [putN_bit _ _ _ _ _ (getN_lt _ _ _), putN_bit _ _ _ _ _ hv, getN_bit]
  by_cases h1 : j < a
  · simp [h1]
  · by_cases h2 : j < a + n
    · simp [h1, h2, show j - a < n by omega, show a + (j - a) = j by omega]
    · simp [h1, h2]
theorem and_mask (w a n : Nat) : w &&& ((2 ^ n - 1) * 2 ^ a) = getN w a n * 2 ^ a := by
  apply Nat.eq_of_testBit_eq
  intro j
  rw [Nat.testBit_and, Nat.testBit_mul_two_pow, Nat.testBit_mul_two_pow, getN_bit, Nat.testBit_two_pow_sub_one]
  by_cases h : a ≤ j
  · simp [h, show a + (j - a) = j by omega, Bool.and_comm]
  · simp [h]
theorem put_sum (w a n v : Nat) : putN w a n v + getN w a n * 2 ^ a = w + v * 2 ^ a := by
  unfold putN getN
  have h1 : w / 2 ^ (a + n) = w / 2 ^ a / 2 ^ n := by rw [Nat.pow_add, Nat.div_div_eq_div_mul]
  rw [h1]
  have h2 := Nat.div_add_mod w (2 ^ a)
  have h3 := Nat.div_add_mod (w / 2 ^ a) (2 ^ n)
  generalize w % 2 ^ a = m at *
  generalize w / 2 ^ a = q at *
  generalize q / 2 ^ n = p at *
  generalize q % 2 ^ n = r at *
  rw [← h2, ← h3, Nat.mul_add, Nat.mul_add, Nat.mul_comm r, Nat.mul_comm v]
  omega
/-- What Go's Put computes: the bits that are not the piece's, and v. -/
theorem put_bits (w a n v : Nat) (hw : w < 2 ^ 32) (hv : v < 2 ^ n) (h : a + n ≤ 32) :
    bits .or .u32 (bits .andNot .u32 w (((2 ^ n - 1) * 2 ^ a : Nat) : Int)) ((v * 2 ^ a : Nat) : Int) = ((putN w a n v : Nat) : Int) := by
  have hva : v * 2 ^ a < 2 ^ 32 := Nat.lt_of_lt_of_le (Nat.mul_lt_mul_of_pos_right hv (Nat.two_pow_pos a)) (by rw [← Nat.pow_add]; exact Nat.pow_le_pow_right (by decide) (by omega))
  have hma : (2 ^ n - 1) * 2 ^ a < 2 ^ 32 := Nat.lt_of_lt_of_le (Nat.mul_lt_mul_of_pos_right (Nat.sub_lt (Nat.two_pow_pos n) (by decide)) (Nat.two_pow_pos a)) (by rw [← Nat.pow_add]; exact Nat.pow_le_pow_right (by decide) (by omega))
  have e1 : bits .andNot .u32 (w : Int) (((2 ^ n - 1) * 2 ^ a : Nat) : Int) = (((BitVec.ofNat 32 w &&& ~~~ (BitVec.ofNat 32 ((2 ^ n - 1) * 2 ^ a))).toNat : Nat) : Int) := by
    have e : ∀ x : BitVec 32, IntKind.u32.wrap (x.toNat : Int) = ((x.toNat : Nat) : Int) := fun x => by
      rw [IntKind.wrap_u32]
      have := x.isLt
      omega
    simp only [bits, BitVec.ofInt_natCast]
    exact e _
  rw [e1, (bits_nat .u32 32 (by decide) (fun n h0 h1 => by rw [IntKind.wrap_u32]; omega) _ _ (BitVec.isLt _) hva).2]
  congr 1
  apply Nat.eq_of_testBit_eq
  intro j
  rw [Nat.testBit_or, BitVec.testBit_toNat, BitVec.getLsbD_and, BitVec.getLsbD_not, BitVec.getLsbD_ofNat, BitVec.getLsbD_ofNat, putN_bit _ _ _ _ _ hv, Nat.testBit_mul_two_pow, Nat.testBit_mul_two_pow, Nat.testBit_two_pow_sub_one]
  by_cases h32 : j < 32
  · by_cases h1 : j < a
    · simp [h32, h1, show ¬ a ≤ j by omega]
    · by_cases h2 : j < a + n
      · simp [h32, h1, h2, show a ≤ j by omega, show j - a < n by omega]
      · simp [h32, h1, h2, show a ≤ j by omega, show ¬ j - a < n by omega, bit_big hv (show n ≤ j - a by omega)]
  · simp [h32, show ¬ j < a by omega, show ¬ j < a + n by omega, show a ≤ j by omega, bit_big hv (show n ≤ j - a by omega), bit_big hw (show 32 ≤ j by omega)]
theorem w64 {n : Int} (h0 : 0 ≤ n) (h1 : n < 18446744073709551616) : IntKind.u64.wrap n = n := by rw [IntKind.wrap_u64]; omega
theorem two_le {a b : Nat} (h : a ≤ b) : 2 ^ a ≤ 2 ^ b := Nat.pow_le_pow_right (by decide) h
theorem rd_at (l : List Int) (j : Nat) (h : j < l.length) : rd l (j : Int) = l[j] := by
  simp [rd, List.getD_eq_getElem?_getD, List.getElem?_eq_getElem h]
theorem next_at (j : Nat) (h : j < 100000) : wrap64 ((j : Int) + 1) = ((j + 1 : Nat) : Int) := by
  rw [wrap64_id (by omega) (by omega)]; omega
def piecev (at_ n : Int) : Prop := 0 ≤ at_ ∧ 1 ≤ n ∧ n ≤ 32 ∧ at_ ≤ 32 - n
instance (a n : Int) : Decidable (piecev a n) := by unfold piecev; infer_instance
theorem isPiece_eq (a n : Int) : pack_isPiece.f a n = some (decide (piecev a n)) := by
  unfold pack_isPiece.f
  by_cases h1 : a ≥ 0
  · rw [if_pos h1]
    by_cases h2 : n ≥ 1
    · rw [if_pos h2]
      by_cases h3 : n ≤ 32
      · rw [if_pos h3, wrap64_id (by omega) (by omega)]; congr 1; exact decide_eq_decide.2 (by unfold piecev; omega)
      · rw [if_neg h3]; congr 1; exact (decide_eq_false (by unfold piecev; omega)).symm
    · rw [if_neg h2]; congr 1; exact (decide_eq_false (by unfold piecev; omega)).symm
  · rw [if_neg h1]; congr 1; exact (decide_eq_false (by unfold piecev; omega)).symm
def capv (n : Int) : Nat := min n.toNat 32
def fitsv (v : Nat) (n : Int) : Prop := v < 2 ^ capv n
instance (v : Nat) (n : Int) : Decidable (fitsv v n) := by unfold fitsv; infer_instance
theorem fits_eq (v : Nat) (hv : v < 4294967296) (n : Int) (hn : (-9223372036854775808 : Int) ≤ n) (hn' : n ≤ 9223372036854775807) : pack_Fits.f v n = some (decide (fitsv v n)) := by
  unfold pack_Fits.f
  by_cases h1 : n ≥ 32
  · rw [if_pos h1]; congr 1
    exact (decide_eq_true (by unfold fitsv; rw [show capv n = 32 by unfold capv; omega]; omega)).symm
  · rw [if_neg h1]
    by_cases h2 : n < 0
    · rw [if_pos h2]; congr 1
      rw [Bool.eq_iff_iff, beq_iff_eq, decide_eq_true_eq]
      unfold fitsv; rw [show capv n = 0 by unfold capv; omega]; omega
    · rw [if_neg h2, w64 (by omega) (by omega), if_pos (by omega)]
      congr 1
      rw [Bool.eq_iff_iff, beq_iff_eq, decide_eq_true_eq]
      unfold fitsv capv
      have e : (2 : Int) ^ min n.toNat 32 = ((2 ^ min n.toNat 32 : Nat) : Int) := by rw [Int.natCast_pow]; rfl
      rw [e, ← Int.natCast_ediv]
      have hp := Nat.two_pow_pos (min n.toNat 32)
      have := @Nat.div_eq_zero_iff v (2 ^ min n.toNat 32)
      omega
theorem mask_all : ∀ n < 33, ∀ a < 33, 1 ≤ n → a + n ≤ 32 → pack_mask.f (a : Nat) (n : Nat) = some (((2 ^ n - 1) * 2 ^ a : Nat) : Int) := by decide +kernel
theorem get_eq (w : Nat) (hw : w < 4294967296) (a n : Int) : pack_Get.f w a n = some (if piecev a n then ((getN w a.toNat n.toNat : Nat) : Int) else 0) := by
  unfold pack_Get.f
  rw [isPiece_eq]
  simp only [Option.bind_some, decide_eq_true_eq]
  by_cases h : piecev a n
  · rw [if_pos h, if_pos h]
    obtain ⟨h1, h2, h3, h4⟩ := h
    obtain ⟨a, rfl⟩ := Int.eq_ofNat_of_zero_le h1
    obtain ⟨n, rfl⟩ := Int.eq_ofNat_of_zero_le (show 0 ≤ n by omega)
    have hmask : (2 ^ n - 1) * 2 ^ a < 2 ^ 32 := Nat.lt_of_lt_of_le (Nat.mul_lt_mul_of_pos_right (Nat.sub_lt (Nat.two_pow_pos n) (by decide)) (Nat.two_pow_pos a)) (by rw [← Nat.pow_add]; exact Nat.pow_le_pow_right (by decide) (by omega))
    rw [mask_all n (by omega) a (by omega) (by omega) (by omega)]
    simp only [Option.bind_some]
    rw [w64 (by omega) (by omega), if_pos (by omega), u32_and w _ (by omega) hmask, and_mask]
    simp only [Int.toNat_natCast]
    congr 1
    have e : (2 : Int) ^ min a 32 = ((2 ^ a : Nat) : Int) := by rw [Int.natCast_pow, show min a 32 = a by omega]; rfl
    rw [e, ← Int.natCast_ediv, Nat.mul_div_cancel _ (Nat.two_pow_pos a)]
  · rw [if_neg h, if_neg h]
def putv (w : Nat) (a n : Int) (v : Nat) : Int × Int := if piecev a n then (if fitsv v n then (((putN w a.toNat n.toNat v : Nat) : Int), 0) else (0, 15)) else (0, 2)
theorem put_eq (w : Nat) (hw : w < 4294967296) (a n : Int) (v : Nat) (hv : v < 4294967296) : pack_Put.f w a n v = some (putv w a n v) := by
  unfold pack_Put.f putv
  rw [isPiece_eq]
  simp only [Option.bind_some, decide_eq_true_eq]
  by_cases h : piecev a n
  · rw [if_pos h, if_pos h]
    obtain ⟨h1, h2, h3, h4⟩ := h
    rw [fits_eq v hv n (by omega) (by omega)]
    simp only [Option.bind_some, decide_eq_true_eq]
    by_cases hf : fitsv v n
    · rw [if_pos hf, if_pos hf]
      obtain ⟨a, rfl⟩ := Int.eq_ofNat_of_zero_le h1
      obtain ⟨n, rfl⟩ := Int.eq_ofNat_of_zero_le (show 0 ≤ n by omega)
      have hvn : v < 2 ^ n := by unfold fitsv at hf; rwa [show capv (n : Int) = n by unfold capv; omega] at hf
      rw [mask_all n (by omega) a (by omega) (by omega) (by omega)]
      simp only [Option.bind_some, Int.toNat_natCast]
      rw [w64 (by omega) (by omega), if_pos (by omega)]
      have e : (v : Int) * 2 ^ min a 32 = ((v * 2 ^ a : Nat) : Int) := by rw [show min a 32 = a by omega, Int.natCast_mul, Int.natCast_pow]; rfl
      have hva : v * 2 ^ a < 2 ^ 32 := Nat.lt_of_lt_of_le (Nat.mul_lt_mul_of_pos_right hvn (Nat.two_pow_pos a)) (by rw [← Nat.pow_add]; exact Nat.pow_le_pow_right (by decide) (by omega))
      simp only [Int.toNat_natCast]
      rw [e, show IntKind.u32.wrap ((v * 2 ^ a : Nat) : Int) = ((v * 2 ^ a : Nat) : Int) by rw [IntKind.wrap_u32]; omega, put_bits w a n v (by omega) hvn (by omega)]
    · rw [if_neg hf, if_neg hf]
  · rw [if_neg h, if_neg h]
theorem putN_new (x a n v : Nat) (hx : x < 2 ^ a) : putN x a n v = x + v * 2 ^ a := by
  have h := put_sum x a n v
  have h0 : getN x a n = 0 := by unfold getN; rw [Nat.div_eq_of_lt hx, Nat.zero_mod]
  rw [h0] at h
  omega
theorem jstep (k : Nat) (l ws : List Int) (x a n v i : Nat) (hi : i < l.length) (hj : i < ws.length) (hm : i < 100) (hl : rd l (i : Int) = (v : Int)) (hw : rd ws (i : Int) = (n : Int)) (hx : x < 2 ^ a) (hv : v < 2 ^ n) (hn : 1 ≤ n) (ha : a + n ≤ 32) :
    pack_Join.lo0 (k + 1) l ws (x : Int) (a : Int) (i : Int) = pack_Join.lo0 k l ws ((x + v * 2 ^ a : Nat) : Int) ((a + n : Nat) : Int) ((i + 1 : Nat) : Int) := by
  have hx32 : x < 4294967296 := Nat.lt_of_lt_of_le hx (two_le (b := 32) (by omega))
  have hv32 : v < 4294967296 := Nat.lt_of_lt_of_le hv (two_le (b := 32) (by omega))
  rw [pack_Join.lo0, if_pos (by omega), if_pos (by omega), if_pos (by omega), hl, hw, put_eq x hx32 a n v hv32]
  have hp : piecev (a : Int) (n : Int) := by unfold piecev; omega
  have hf : fitsv v (n : Int) := by unfold fitsv capv; rw [Int.toNat_natCast, show min n 32 = n by omega]; exact hv
  unfold putv
  rw [if_pos hp, if_pos hf]
  simp only [Option.bind_some, Int.toNat_natCast, if_true]
  rw [putN_new x a n v hx, wrap64_id (by omega) (by omega), wrap64_id (by omega) (by omega)]
  rfl
theorem join8 (K C N S D R o : Nat) (hK : K < 4) (hC : C < 2) (hN : N < 2) (hS : S < 2) (hD : D < 2) (hR : R < 2) (ho : o < 16777216) :
    pack_Join.f 20 [(K : Int), C, N, S, D, R, 0, o] [2, 1, 1, 1, 1, 1, 1, 24] = some (((K + 4 * C + 8 * N + 16 * S + 32 * D + 64 * R + 256 * o : Nat) : Int), 0) := by
  unfold pack_Join.f
  rw [show pack_total.f 20 [2, 1, 1, 1, 1, 1, 1, 24] = some 32 by decide +kernel]
  simp only [Option.bind_some]
  rw [if_neg (by decide), if_pos (by simp)]
  have s1 := jstep 19 [(K : Int), C, N, S, D, R, 0, o] [2, 1, 1, 1, 1, 1, 1, 24] 0 0 2 K 0 (by simp) (by simp) (by decide) rfl rfl (by decide) (by omega) (by decide) (by decide)
  have s2 := jstep 18 [(K : Int), C, N, S, D, R, 0, o] [2, 1, 1, 1, 1, 1, 1, 24] (0 + K * 2 ^ 0) 2 1 C 1 (by simp) (by simp) (by decide) rfl rfl (by omega) (by omega) (by decide) (by decide)
  have s3 := jstep 17 [(K : Int), C, N, S, D, R, 0, o] [2, 1, 1, 1, 1, 1, 1, 24] (0 + K * 2 ^ 0 + C * 2 ^ 2) 3 1 N 2 (by simp) (by simp) (by decide) rfl rfl (by omega) (by omega) (by decide) (by decide)
  have s4 := jstep 16 [(K : Int), C, N, S, D, R, 0, o] [2, 1, 1, 1, 1, 1, 1, 24] (0 + K * 2 ^ 0 + C * 2 ^ 2 + N * 2 ^ 3) 4 1 S 3 (by simp) (by simp) (by decide) rfl rfl (by omega) (by omega) (by decide) (by decide)
  have s5 := jstep 15 [(K : Int), C, N, S, D, R, 0, o] [2, 1, 1, 1, 1, 1, 1, 24] (0 + K * 2 ^ 0 + C * 2 ^ 2 + N * 2 ^ 3 + S * 2 ^ 4) 5 1 D 4 (by simp) (by simp) (by decide) rfl rfl (by omega) (by omega) (by decide) (by decide)
  have s6 := jstep 14 [(K : Int), C, N, S, D, R, 0, o] [2, 1, 1, 1, 1, 1, 1, 24] (0 + K * 2 ^ 0 + C * 2 ^ 2 + N * 2 ^ 3 + S * 2 ^ 4 + D * 2 ^ 5) 6 1 R 5 (by simp) (by simp) (by decide) rfl rfl (by omega) (by omega) (by decide) (by decide)
  have s7 := jstep 13 [(K : Int), C, N, S, D, R, 0, o] [2, 1, 1, 1, 1, 1, 1, 24] (0 + K * 2 ^ 0 + C * 2 ^ 2 + N * 2 ^ 3 + S * 2 ^ 4 + D * 2 ^ 5 + R * 2 ^ 6) 7 1 0 6 (by simp) (by simp) (by decide) rfl rfl (by omega) (by omega) (by decide) (by decide)
  have s8 := jstep 12 [(K : Int), C, N, S, D, R, 0, o] [2, 1, 1, 1, 1, 1, 1, 24] (0 + K * 2 ^ 0 + C * 2 ^ 2 + N * 2 ^ 3 + S * 2 ^ 4 + D * 2 ^ 5 + R * 2 ^ 6 + 0 * 2 ^ 7) 8 24 o 7 (by simp) (by simp) (by decide) rfl rfl (by omega) (by omega) (by decide) (by decide)
  have s9 : pack_Join.lo0 12 [(K : Int), C, N, S, D, R, 0, o] [2, 1, 1, 1, 1, 1, 1, 24] ((0 + K * 2 ^ 0 + C * 2 ^ 2 + N * 2 ^ 3 + S * 2 ^ 4 + D * 2 ^ 5 + R * 2 ^ 6 + 0 * 2 ^ 7 + o * 2 ^ 8 : Nat) : Int) ((8 + 24 : Nat) : Int) ((7 + 1 : Nat) : Int) = some (.out ((0 + K * 2 ^ 0 + C * 2 ^ 2 + N * 2 ^ 3 + S * 2 ^ 4 + D * 2 ^ 5 + R * 2 ^ 6 + 0 * 2 ^ 7 + o * 2 ^ 8 : Nat) : Int)) := by
    rw [pack_Join.lo0, if_neg (by simp)]
  have e : pack_Join.lo0 20 [(K : Int), C, N, S, D, R, 0, o] [2, 1, 1, 1, 1, 1, 1, 24] 0 0 0 = some (.out ((0 + K * 2 ^ 0 + C * 2 ^ 2 + N * 2 ^ 3 + S * 2 ^ 4 + D * 2 ^ 5 + R * 2 ^ 6 + 0 * 2 ^ 7 + o * 2 ^ 8 : Nat) : Int)) :=
    s1.trans (s2.trans (s3.trans (s4.trans (s5.trans (s6.trans (s7.trans (s8.trans s9)))))))
  rw [e]
  simp only [Option.bind_some, M.Lp.elim]
  congr 3
  omega
def bit (n : Int) : Prop := n = 0 ∨ n = 1
instance (n : Int) : Decidable (bit n) := by unfold bit; infer_instance
def rightv (K C N S D R o : Int) : Prop := (bit C ∧ bit N ∧ bit S ∧ bit D ∧ bit R) ∧ ((K = 1 ∨ K = 2) ∧ o = 0 ∨ (K = 0 ∨ K = 3) ∧ C = 0 ∧ N = 0 ∧ S = 0 ∧ D = 0 ∧ R = 0 ∧ 0 ≤ o ∧ o < 1048576 ∧ (K = 3 ∨ o = 0))
instance (K C N S D R o : Int) : Decidable (rightv K C N S D R o) := by unfold rightv; infer_instance
theorem rstep (k : Nat) (t : Int × Int × Int × Int × Int) (i : Nat) (hi : i < 5) : tag_Right.lo0 (k + 1) t (i : Int) = if bit (rd [t.1, t.2.1, t.2.2.1, t.2.2.2.1, t.2.2.2.2] (i : Int)) then tag_Right.lo0 k t ((i + 1 : Nat) : Int) else some (.ret false) := by
  rw [tag_Right.lo0, if_pos (by omega), if_pos (by omega), wrap64_id (by omega) (by omega)]
  by_cases h0 : rd [t.1, t.2.1, t.2.2.1, t.2.2.2.1, t.2.2.2.2] (i : Int) = 0
  · rw [if_pos h0, if_pos (show bit _ from Or.inl h0)]; rfl
  · rw [if_neg h0]
    by_cases h1 : rd [t.1, t.2.1, t.2.2.1, t.2.2.2.1, t.2.2.2.2] (i : Int) = 1
    · rw [if_pos h1, if_pos (show bit _ from Or.inr h1)]; rfl
    · rw [if_neg h1, if_neg (fun h : bit _ => h.elim h0 h1)]
theorem right_lo (C N S D R : Int) : tag_Right.lo0 20 (C, N, S, D, R) 0 = some (if bit C ∧ bit N ∧ bit S ∧ bit D ∧ bit R then .out () else .ret false) := by
  have e0 := rstep 19 (C, N, S, D, R) 0 (by decide)
  have e1 := rstep 18 (C, N, S, D, R) 1 (by decide)
  have e2 := rstep 17 (C, N, S, D, R) 2 (by decide)
  have e3 := rstep 16 (C, N, S, D, R) 3 (by decide)
  have e4 := rstep 15 (C, N, S, D, R) 4 (by decide)
  have e5 : tag_Right.lo0 15 (C, N, S, D, R) ((4 + 1 : Nat) : Int) = some (.out ()) := by rw [tag_Right.lo0, if_neg (by decide)]
  have g0 : rd [C, N, S, D, R] ((0 : Nat) : Int) = C := rfl
  have g1 : rd [C, N, S, D, R] ((1 : Nat) : Int) = N := rfl
  have g2 : rd [C, N, S, D, R] ((2 : Nat) : Int) = S := rfl
  have g3 : rd [C, N, S, D, R] ((3 : Nat) : Int) = D := rfl
  have g4 : rd [C, N, S, D, R] ((4 : Nat) : Int) = R := rfl
  simp only [g0] at e0
  simp only [g1] at e1
  simp only [g2] at e2
  simp only [g3] at e3
  simp only [g4] at e4
  rw [show (0 : Int) = ((0 : Nat) : Int) from rfl, e0, e1, e2, e3, e4, e5]
  by_cases h0 : bit C <;> by_cases h1 : bit N <;> by_cases h2 : bit S <;> by_cases h3 : bit D <;> by_cases h4 : bit R <;> simp [h0, h1, h2, h3, h4]
theorem right_eq (K C N S D R o : Int) : tag_Right.f 20 K C N S D R o = some (decide (rightv K C N S D R o)) := by
  unfold tag_Right.f tag_marks.f
  simp only [Option.bind_some]
  rw [right_lo]
  by_cases hb : bit C ∧ bit N ∧ bit S ∧ bit D ∧ bit R
  · have hr : rightv K C N S D R o ↔ ((K = 1 ∨ K = 2) ∧ o = 0 ∨ (K = 0 ∨ K = 3) ∧ C = 0 ∧ N = 0 ∧ S = 0 ∧ D = 0 ∧ R = 0 ∧ 0 ≤ o ∧ o < 1048576 ∧ (K = 3 ∨ o = 0)) := ⟨fun h => h.2, fun h => ⟨hb, h⟩⟩
    rw [if_pos hb]
    simp only [Option.bind_some, M.Lp.elim]
    have hz : (([C, N, S, D, R] : List Int) == [0, 0, 0, 0, 0]) = decide (C = 0 ∧ N = 0 ∧ S = 0 ∧ D = 0 ∧ R = 0) := by
      rw [Bool.eq_iff_iff]; simp
    rw [hz]
    by_cases h1 : K = 1
    · rw [if_pos h1]; congr 1; rw [Bool.eq_iff_iff]; simp only [beq_iff_eq, decide_eq_true_eq]; rw [hr]; omega
    · rw [if_neg h1]
      by_cases h2 : K = 2
      · rw [if_pos h2]; congr 1; rw [Bool.eq_iff_iff]; simp only [beq_iff_eq, decide_eq_true_eq]; rw [hr]; omega
      · rw [if_neg h2]
        by_cases h0 : K = 0
        · rw [if_pos h0]
          by_cases hm : C = 0 ∧ N = 0 ∧ S = 0 ∧ D = 0 ∧ R = 0
          · rw [if_pos (decide_eq_true hm)]
            by_cases ho : o ≥ 0
            · rw [if_pos ho]
              by_cases ho2 : o < 1048576
              · rw [if_pos ho2, if_neg (by omega)]; congr 1; rw [Bool.eq_iff_iff]; simp only [beq_iff_eq, decide_eq_true_eq]; rw [hr]; omega
              · rw [if_neg ho2]; congr 1; exact (decide_eq_false (by rw [hr]; omega)).symm
            · rw [if_neg ho]; congr 1; exact (decide_eq_false (by rw [hr]; omega)).symm
          · rw [if_neg (by rw [decide_eq_true_eq]; exact hm)]; congr 1; exact (decide_eq_false (by rw [hr]; omega)).symm
        · rw [if_neg h0]
          by_cases h3 : K = 3
          · rw [if_pos h3]
            by_cases hm : C = 0 ∧ N = 0 ∧ S = 0 ∧ D = 0 ∧ R = 0
            · rw [if_pos (decide_eq_true hm)]
              by_cases ho : o ≥ 0
              · rw [if_pos ho]
                by_cases ho2 : o < 1048576
                · rw [if_pos ho2]; congr 1; exact (decide_eq_true (by rw [hr]; omega)).symm
                · rw [if_neg ho2]; congr 1; exact (decide_eq_false (by rw [hr]; omega)).symm
              · rw [if_neg ho]; congr 1; exact (decide_eq_false (by rw [hr]; omega)).symm
            · rw [if_neg (by rw [decide_eq_true_eq]; exact hm)]; congr 1; exact (decide_eq_false (by rw [hr]; omega)).symm
          · rw [if_neg h3]; congr 1; exact (decide_eq_false (by rw [hr]; omega)).symm
  · rw [if_neg hb]
    simp only [Option.bind_some, M.Lp.elim]
    congr 1
    exact (decide_eq_false (fun h => hb h.1)).symm
theorem pstep (k : Nat) (t : Int × Int × Int × Int × Int) (i : Nat) (hi : i < 5) (l : List Int) (hl : l.length < 100) : tag_Pack.lo0 (k + 1) t (i : Int) l = tag_Pack.lo0 k t ((i + 1 : Nat) : Int) (l ++ [rd [t.1, t.2.1, t.2.2.1, t.2.2.2.1, t.2.2.2.2] (i : Int) % 4294967296]) := by
  rw [tag_Pack.lo0, if_pos (by omega), if_pos (by omega), if_pos (by omega), wrap64_id (by omega) (by omega)]
  rfl
theorem pack_lo (x C N S D R : Int) : tag_Pack.lo0 20 (C, N, S, D, R) 0 [x] = some [x, C % 4294967296, N % 4294967296, S % 4294967296, D % 4294967296, R % 4294967296] :=
  (pstep 19 (C, N, S, D, R) 0 (by decide) [x] (by simp)).trans ((pstep 18 (C, N, S, D, R) 1 (by decide) _ (by simp)).trans ((pstep 17 (C, N, S, D, R) 2 (by decide) _ (by simp)).trans ((pstep 16 (C, N, S, D, R) 3 (by decide) _ (by simp)).trans ((pstep 15 (C, N, S, D, R) 4 (by decide) _ (by simp)).trans (by
    rw [tag_Pack.lo0, if_neg (by decide)]; rfl)))))
def wordv (K C N S D R o : Int) : Int := K + 4 * C + 8 * N + 16 * S + 32 * D + 64 * R + 256 * o
theorem pack_eq (K C N S D R o : Int) : tag_Pack.f 20 K C N S D R o = some (if rightv K C N S D R o then (wordv K C N S D R o, 0) else (0, 2)) := by
  unfold tag_Pack.f
  rw [right_eq]
  simp only [Option.bind_some, decide_eq_true_eq]
  by_cases h : rightv K C N S D R o
  · rw [if_pos h, if_pos h]
    unfold tag_marks.f
    simp only [Option.bind_some]
    rw [pack_lo]
    simp only [Option.bind_some]
    rw [if_pos (by simp)]
    simp only [List.cons_append, List.nil_append]
    unfold rightv bit at h
    obtain ⟨K, rfl⟩ := Int.eq_ofNat_of_zero_le (show 0 ≤ K by omega)
    obtain ⟨C, rfl⟩ := Int.eq_ofNat_of_zero_le (show 0 ≤ C by omega)
    obtain ⟨N, rfl⟩ := Int.eq_ofNat_of_zero_le (show 0 ≤ N by omega)
    obtain ⟨S, rfl⟩ := Int.eq_ofNat_of_zero_le (show 0 ≤ S by omega)
    obtain ⟨D, rfl⟩ := Int.eq_ofNat_of_zero_le (show 0 ≤ D by omega)
    obtain ⟨R, rfl⟩ := Int.eq_ofNat_of_zero_le (show 0 ≤ R by omega)
    obtain ⟨o, rfl⟩ := Int.eq_ofNat_of_zero_le (show 0 ≤ o by omega)
    rw [show (K : Int) % 4294967296 = K by omega, show (C : Int) % 4294967296 = C by omega, show (N : Int) % 4294967296 = N by omega, show (S : Int) % 4294967296 = S by omega, show (D : Int) % 4294967296 = D by omega, show (R : Int) % 4294967296 = R by omega, show (o : Int) % 4294967296 = o by omega]
    rw [join8 K C N S D R o (by omega) (by omega) (by omega) (by omega) (by omega) (by omega) (by omega)]
    simp only [Option.bind_some]
    congr 2
  · rw [if_neg h, if_neg h]
theorem begun : quitrentlaw06_begun.f 20 = some true := by decide +kernel
theorem mark_eq (a : Int) : quitrentref06_mark.f a = some (decide (bit a)) := by
  unfold quitrentref06_mark.f bit
  by_cases h : a = 0
  · rw [if_pos h]; congr 1; exact (decide_eq_true (Or.inl h)).symm
  · rw [if_neg h]; congr 1; rw [Bool.eq_iff_iff]; simp [h]
theorem refRight_eq (K C N S D R o : Int) : quitrentref06_Right.f K C N S D R o = some (decide (rightv K C N S D R o)) := by
  unfold quitrentref06_Right.f
  by_cases h0 : K < 0
  · rw [if_pos h0]; congr 1; exact (decide_eq_false (by unfold rightv; omega)).symm
  rw [if_neg h0]
  by_cases h3 : K > 3
  · rw [if_pos h3]; congr 1; exact (decide_eq_false (by unfold rightv; omega)).symm
  rw [if_neg h3]
  simp only [mark_eq, Option.bind_some, decide_eq_true_eq]
  by_cases hC : bit C
  · by_cases hN : bit N
    · by_cases hS : bit S
      · by_cases hD : bit D
        · by_cases hR : bit R
          · rw [if_pos hC, if_pos hN, if_pos hS, if_pos hD, if_pos hR]
            unfold bit at hC hN hS hD hR
            rw [wrap64_id (n := C + N) (by omega) (by omega), wrap64_id (n := C + N + S) (by omega) (by omega), wrap64_id (n := C + N + S + D) (by omega) (by omega), wrap64_id (n := C + N + S + D + R) (by omega) (by omega)]
            by_cases ho : o < 0
            · rw [if_pos ho]; congr 1; exact (decide_eq_false (by unfold rightv; omega)).symm
            rw [if_neg ho]
            by_cases ho2 : o > 1048575
            · rw [if_pos ho2]; congr 1; exact (decide_eq_false (by unfold rightv; omega)).symm
            rw [if_neg ho2]
            by_cases hk : K = 0
            · rw [if_pos hk]
              by_cases hm : C + N + S + D + R > 0
              · rw [if_pos hm]; congr 1; exact (decide_eq_false (by unfold rightv; omega)).symm
              · rw [if_neg hm, if_neg (by omega)]; congr 1; rw [Bool.eq_iff_iff]; simp only [beq_iff_eq, decide_eq_true_eq]; unfold rightv bit; omega
            · rw [if_neg hk]
              by_cases hk3 : K = 3
              · rw [if_pos hk3]
                by_cases hm : C + N + S + D + R > 0
                · rw [if_pos hm]; congr 1; exact (decide_eq_false (by unfold rightv; omega)).symm
                · rw [if_neg hm]; congr 1; exact (decide_eq_true (by unfold rightv bit; omega)).symm
              · rw [if_neg hk3]; congr 1; rw [Bool.eq_iff_iff]; simp only [beq_iff_eq, decide_eq_true_eq]; unfold rightv bit; omega
          · rw [if_pos hC, if_pos hN, if_pos hS, if_pos hD, if_neg hR]; congr 1; exact (decide_eq_false (fun h => hR h.1.2.2.2.2)).symm
        · rw [if_pos hC, if_pos hN, if_pos hS, if_neg hD]; congr 1; exact (decide_eq_false (fun h => hD h.1.2.2.2.1)).symm
      · rw [if_pos hC, if_pos hN, if_neg hS]; congr 1; exact (decide_eq_false (fun h => hS h.1.2.2.1)).symm
    · rw [if_pos hC, if_neg hN]; congr 1; exact (decide_eq_false (fun h => hN h.1.2.1)).symm
  · rw [if_neg hC]; congr 1; exact (decide_eq_false (fun h => hC h.1.1)).symm
theorem refPack_eq (K C N S D R o : Int) (h : rightv K C N S D R o) : quitrentref06_Pack.f K C N S D R o = some (wordv K C N S D R o) := by
  unfold quitrentref06_Pack.f
  unfold rightv bit at h
  rw [wrap64_id (n := 4 * C) (by omega) (by omega), wrap64_id (n := 8 * N) (by omega) (by omega), wrap64_id (n := 16 * S) (by omega) (by omega), wrap64_id (n := 32 * D) (by omega) (by omega), wrap64_id (n := 64 * R) (by omega) (by omega), wrap64_id (n := 256 * o) (by omega) (by omega),
    wrap64_id (n := K + 4 * C) (by omega) (by omega), wrap64_id (n := K + 4 * C + 8 * N) (by omega) (by omega), wrap64_id (n := K + 4 * C + 8 * N + 16 * S) (by omega) (by omega), wrap64_id (n := K + 4 * C + 8 * N + 16 * S + 32 * D) (by omega) (by omega), wrap64_id (n := K + 4 * C + 8 * N + 16 * S + 32 * D + 64 * R) (by omega) (by omega), wrap64_id (n := K + 4 * C + 8 * N + 16 * S + 32 * D + 64 * R + 256 * o) (by omega) (by omega)]
  congr 1
  unfold wordv
  omega
def isI (n : Int) : Prop := (Lit.int .i64 n).wf = true
theorem TagPacks (K C N S D R o : Int) (_ : isI K) (_ : isI C) (_ : isI N) (_ : isI S) (_ : isI D) (_ : isI R) (_ : isI o) : ∃ k, quitrentlaw06_TagPacks.f k K C N S D R o = some true := by
  refine ⟨20, ?_⟩
  unfold quitrentlaw06_TagPacks.f
  rw [pack_eq, refRight_eq, right_eq, begun]
  simp only [Option.bind_some, decide_eq_true_eq]
  by_cases h : rightv K C N S D R o
  · rw [if_pos h, if_pos h, if_pos h, refPack_eq _ _ _ _ _ _ _ h]
    simp
  · rw [if_neg h, if_neg h, if_neg h]
    simp
theorem one_eq (a n w : Nat) (hw : w < 4294967296) (hn : 1 ≤ n) (h : a + n ≤ 32) : tag_Unpack_1.f a n w = some ((w / 2 ^ a % 2 ^ n : Nat) : Int) := by
  unfold tag_Unpack_1.f
  rw [get_eq w hw, if_pos (by unfold piecev; omega)]
  simp only [Option.bind_some, Int.toNat_natCast]
  unfold getN
  have h1 : w / 2 ^ a % 2 ^ n ≤ w / 2 ^ a := Nat.mod_le _ _
  have h2 : w / 2 ^ a ≤ w := Nat.div_le_self _ _
  rw [wrap64_id (by omega) (by omega)]
theorem unpack_eq (w : Nat) (hw : w < 4294967296) : tag_Unpack.f (w : Int) = some (((w % 4 : Nat) : Int), ((w / 4 % 2 : Nat) : Int), ((w / 8 % 2 : Nat) : Int), ((w / 16 % 2 : Nat) : Int), ((w / 32 % 2 : Nat) : Int), ((w / 64 % 2 : Nat) : Int), ((w / 256 : Nat) : Int)) := by
  unfold tag_Unpack.f
  have e0 := one_eq 0 2 w hw (by decide) (by decide)
  have e1 := one_eq 2 1 w hw (by decide) (by decide)
  have e2 := one_eq 3 1 w hw (by decide) (by decide)
  have e3 := one_eq 4 1 w hw (by decide) (by decide)
  have e4 := one_eq 5 1 w hw (by decide) (by decide)
  have e5 := one_eq 6 1 w hw (by decide) (by decide)
  have e6 := one_eq 8 24 w hw (by decide) (by decide)
  have z0 : w / 2 ^ 0 % 2 ^ 2 = w % 4 := by simp
  have z6 : w / 2 ^ 8 % 2 ^ 24 = w / 256 := by omega
  rw [z0] at e0
  rw [z6] at e6
  rw [show tag_Unpack_1.f 0 2 (w : Int) = _ from e0, show tag_Unpack_1.f 2 1 (w : Int) = _ from e1, show tag_Unpack_1.f 3 1 (w : Int) = _ from e2, show tag_Unpack_1.f 4 1 (w : Int) = _ from e3, show tag_Unpack_1.f 5 1 (w : Int) = _ from e4, show tag_Unpack_1.f 6 1 (w : Int) = _ from e5, show tag_Unpack_1.f 8 24 (w : Int) = _ from e6]
  rfl
theorem refUnpack_eq (w : Nat) (hw : w < 4294967296) : quitrentref06_Unpack.f (w : Int) = some (((w % 4 : Nat) : Int), ((w / 4 % 2 : Nat) : Int), ((w / 8 % 2 : Nat) : Int), ((w / 16 % 2 : Nat) : Int), ((w / 32 % 2 : Nat) : Int), ((w / 64 % 2 : Nat) : Int), ((w / 256 : Nat) : Int)) := by
  unfold quitrentref06_Unpack.f
  rw [wrap64_id (n := (w : Int)) (by omega) (by omega)]
  simp only [Int.tdiv_eq_ediv_of_nonneg (Int.natCast_nonneg w)]
  rw [wrap64_id (n := (w : Int) / 4) (by omega) (by omega), wrap64_id (n := (w : Int) / 8) (by omega) (by omega), wrap64_id (n := (w : Int) / 16) (by omega) (by omega), wrap64_id (n := (w : Int) / 32) (by omega) (by omega), wrap64_id (n := (w : Int) / 64) (by omega) (by omega), wrap64_id (n := (w : Int) / 256) (by omega) (by omega)]
  rw [Int.tmod_eq_emod_of_nonneg (by omega), Int.tmod_eq_emod_of_nonneg (by omega), Int.tmod_eq_emod_of_nonneg (by omega), Int.tmod_eq_emod_of_nonneg (by omega), Int.tmod_eq_emod_of_nonneg (by omega), Int.tmod_eq_emod_of_nonneg (by omega)]
  congr 1
theorem TagUnpacks (w : Int) (hw : (Lit.int .u32 w).wf = true) : ∃ k, quitrentlaw06_TagUnpacks.f k w = some true := by
  rw [Lit.wf_int_iff] at hw
  simp only [IntKind.min, IntKind.max] at hw
  simp [IntKind.signed, IntKind.bits] at hw
  obtain ⟨w, rfl⟩ := Int.eq_ofNat_of_zero_le hw.1
  refine ⟨20, ?_⟩
  unfold quitrentlaw06_TagUnpacks.f
  rw [begun, unpack_eq w (by omega), refUnpack_eq w (by omega)]
  simp
theorem wipe (w : Nat) (hw : w < 4294967296) : Go.bits .andNot .u32 (w : Int) 128 = ((w % 128 + w / 256 * 256 : Nat) : Int) := by
  have h := put_bits w 7 1 0 hw (by decide) (by decide)
  have hs := put_sum w 7 1 0
  unfold getN at hs
  have e : putN w 7 1 0 = w % 128 + w / 256 * 256 := by omega
  rw [e] at h
  have e1 : bits .andNot .u32 (w : Int) 128 = (((BitVec.ofNat 32 w &&& ~~~ (BitVec.ofNat 32 128)).toNat : Nat) : Int) := by
    have e : ∀ x : BitVec 32, IntKind.u32.wrap (x.toNat : Int) = ((x.toNat : Nat) : Int) := fun x => by
      rw [IntKind.wrap_u32]
      have := x.isLt
      omega
    rw [show (128 : Int) = ((128 : Nat) : Int) from rfl]
    simp only [bits, BitVec.ofInt_natCast]
    exact e _
  have hx := (BitVec.ofNat 32 w &&& ~~~ (BitVec.ofNat 32 128)).isLt
  rw [show (((2 ^ 1 - 1) * 2 ^ 7 : Nat) : Int) = 128 from rfl, show ((0 * 2 ^ 7 : Nat) : Int) = ((0 : Nat) : Int) from rfl, e1, u32_or _ 0 hx (by decide), Nat.or_zero] at h
  rw [e1, h]
theorem TagBack (K C N S D R o w : Int) (_ : isI K) (_ : isI C) (_ : isI N) (_ : isI S) (_ : isI D) (_ : isI R) (_ : isI o) (hw : (Lit.int .u32 w).wf = true) : ∃ k, quitrentlaw06_TagBack.f k K C N S D R o w = some true := by
  rw [Lit.wf_int_iff] at hw
  simp only [IntKind.min, IntKind.max] at hw
  simp [IntKind.signed, IntKind.bits] at hw
  obtain ⟨w, rfl⟩ := Int.eq_ofNat_of_zero_le hw.1
  refine ⟨20, ?_⟩
  have hback : ((tag_Unpack.f (w : Int)).bind fun t662 => (tag_Pack.f 20 t662.1 t662.2.1 t662.2.2.1 t662.2.2.2.1 t662.2.2.2.2.1 t662.2.2.2.2.2.1 t662.2.2.2.2.2.2).bind fun t690 => (tag_Right.f 20 t662.1 t662.2.1 t662.2.2.1 t662.2.2.2.1 t662.2.2.2.2.1 t662.2.2.2.2.2.1 t662.2.2.2.2.2.2).bind fun t700 => if t700 = true then (if t690.2 = 0 then (if t690.1 = (Go.bits .andNot .u32 (w : Int) 128) then ((quitrentlaw06_begun.f 20).bind fun t706 => some t706) else (some false)) else (some false)) else (if t690.2 = 2 then ((quitrentlaw06_begun.f 20).bind fun t710 => some t710) else (some false))) = some true := by
    rw [unpack_eq w (by omega)]
    simp only [Option.bind_some]
    rw [pack_eq, right_eq, begun, wipe w (by omega)]
    simp only [Option.bind_some, decide_eq_true_eq]
    by_cases h : rightv ((w % 4 : Nat) : Int) ((w / 4 % 2 : Nat) : Int) ((w / 8 % 2 : Nat) : Int) ((w / 16 % 2 : Nat) : Int) ((w / 32 % 2 : Nat) : Int) ((w / 64 % 2 : Nat) : Int) ((w / 256 : Nat) : Int)
    · rw [if_pos h, if_pos h, if_pos rfl, if_pos (by show wordv _ _ _ _ _ _ _ = _; unfold wordv; omega)]
    · rw [if_neg h, if_neg h, if_pos rfl]
  unfold quitrentlaw06_TagBack.f
  rw [hback, pack_eq]
  simp only [Option.bind_some]
  by_cases h : rightv K C N S D R o
  · rw [if_pos h, if_pos rfl]
    have hwd : ∃ n : Nat, wordv K C N S D R o = (n : Int) ∧ n < 4294967296 := ⟨(wordv K C N S D R o).toNat, by unfold wordv; unfold rightv bit at h; omega, by unfold wordv; unfold rightv bit at h; omega⟩
    obtain ⟨n, hn, hn'⟩ := hwd
    show ((tag_Unpack.f (wordv K C N S D R o)).bind _) = _
    rw [hn, unpack_eq n hn']
    unfold wordv at hn
    unfold rightv bit at h
    simp only [Option.bind_some]
    rw [if_pos (by omega), if_pos (by omega), if_pos (by omega), if_pos (by omega), if_pos (by omega), if_pos (by omega), if_pos (by omega)]
  · rw [if_neg h, if_neg (show ¬ ((0, 2) : Int × Int).2 = 0 by decide)]
end Go.Proofs.YtgkpcboaiaiahabDoor.V
