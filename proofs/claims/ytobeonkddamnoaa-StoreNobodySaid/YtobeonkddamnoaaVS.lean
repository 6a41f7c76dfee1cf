/- The laws of the group S on the plain functions. No condition. -/
import Derived.Test.YtobeonkddamnoaaMS
import Derived.DataShut
import Derived.Laws.Bits64
import Derived.Laws.BitsLemmas
import Derived.RowKit
namespace Go.Proofs.Ytobeonkddamnoaa.V
open Go.RowKit Go.Proofs.Ytobeonkddamnoaa.C Go.Proofs.Ytobeonkddamnoaa.M Go.Proofs.YtobeonkddamnoaaW.PrintWords
theorem has_eq (l : List Int) (m a : Int) : store_Store_has.f l m a = some (decide (0 ≤ a ∧ a < (l.length : Int))) := by
  unfold store_Store_has.f
  by_cases h : a ≥ 0
  · rw [if_pos h]; congr 1; exact decide_eq_decide.2 (by omega)
  · rw [if_neg h]; congr 1; exact (decide_eq_false (by omega)).symm
theorem put_eq (l : List Int) (m i w : Int) : store_Store_Put.f l m i w = some (if 0 ≤ i ∧ i < (l.length : Int) then (true, IntKind.u64.wrap (m + 1), l.set i.toNat w) else (false, m, l)) := by
  unfold store_Store_Put.f
  rw [has_eq]
  simp only [Option.bind_some, decide_eq_true_eq]
  by_cases h : 0 ≤ i ∧ i < (l.length : Int)
  · rw [if_pos h, if_pos h]
    simp only [atomic_Uint64_Add.f, Option.bind_some]
    rw [if_pos h.1, if_pos h.2]
  · rw [if_neg h, if_neg h]
theorem get_eq (l : List Int) (m i : Int) : store_Store_Get.f l m i = some (if 0 ≤ i ∧ i < (l.length : Int) then (rd l i, IntKind.u64.wrap (m + 1)) else (0, m)) := by
  unfold store_Store_Get.f
  rw [has_eq]
  simp only [Option.bind_some, decide_eq_true_eq]
  by_cases h : 0 ≤ i ∧ i < (l.length : Int)
  · rw [if_pos h, if_pos h]
    simp only [atomic_Uint64_Add.f, Option.bind_some]
    rw [if_pos h.1, if_pos h.2]
  · rw [if_neg h, if_neg h]
theorem peek_eq (l : List Int) (m i : Int) : store_Store_Peek.f l m i = some (if 0 ≤ i ∧ i < (l.length : Int) then rd l i else 0) := by
  unfold store_Store_Peek.f
  rw [has_eq]
  simp only [Option.bind_some, decide_eq_true_eq]
  by_cases h : 0 ≤ i ∧ i < (l.length : Int)
  · rw [if_pos h, if_pos h, if_pos h.1, if_pos h.2]
  · rw [if_neg h, if_neg h]
theorem new_in (n : Int) (h0 : 0 ≤ n) (h1 : n ≤ 8388608) : store_New.f n = some (.inr (List.replicate n.toNat 0)) := by
  unfold store_New.f
  rw [if_neg (by omega), if_neg (by omega)]
  unfold M.mkLen
  rw [if_pos (by omega)]
  rfl
theorem new_out (n : Int) (h : n < 0 ∨ 8388608 < n) : store_New.f n = some (.inl ()) := by
  unfold store_New.f
  by_cases h0 : n < 0
  · rw [if_pos h0]
  · rw [if_neg h0, if_pos (by omega)]
theorem load_eq (l : List Int) (m : Int) (l2 : List Int) : store_Store_Load.f l m l2 = some (if l2.length = l.length then (true, l2) else (false, l)) := by
  unfold store_Store_Load.f
  by_cases h : l2.length = l.length
  · rw [if_pos (by omega), if_pos h]
    simp only [Option.bind_some]
    rw [show min l2.length l.length = l.length by omega, List.take_of_length_le (by omega), List.drop_of_length_le (by omega), List.append_nil]
  · rw [if_neg (by omega), if_neg h]
theorem words_eq (l : List Int) (m : Int) (h : l.length ≤ 35184372088832) : store_Store_Words.f l m = some l := by
  unfold store_Store_Words.f slices_Clone_uint32_uint32.f
  rw [if_pos h]; rfl
theorem rd_nat (l : List Int) (j : Nat) (h : j < l.length) : rd l (j : Int) = l[j] := by
  simp [rd, List.getD_eq_getElem?_getD, List.getElem?_eq_getElem h]
theorem rd_set (l : List Int) (i j : Int) (x : Int) (h0 : 0 ≤ i) (h1 : i < (l.length : Int)) (h2 : 0 ≤ j) : rd (l.set i.toNat x) j = if i = j then x else rd l j := by
  simp only [rd, List.getD_eq_getElem?_getD, List.getElem?_set]
  by_cases h : i = j
  · subst h; rw [if_pos rfl, if_pos (show i.toNat < l.length by omega), if_pos rfl]; rfl
  · rw [if_neg (show ¬ i.toNat = j.toNat by omega), if_neg h]
theorem next_i (j : Nat) (h : j < 4611686018427387904) : wrap64 ((j : Int) + 1) = ((j + 1 : Nat) : Int) := by
  unfold wrap64; omega
theorem same_lo (a b : List Int) (hl : a.length = b.length) (hm : a.length < 4611686018427387904) : ∀ (d k j : Nat), j + d = a.length → d < k → quitrentref01_Same.lo0 k a b (j : Int) = some (if a.drop j = b.drop j then .out () else .ret false) := by
  intro d
  induction d with
  | zero =>
    intro k j hj hk
    obtain ⟨k, rfl⟩ : ∃ q, k = q + 1 := ⟨k - 1, by omega⟩
    rw [quitrentref01_Same.lo0, if_neg (by omega), List.drop_of_length_le (by omega), List.drop_of_length_le (by omega), if_pos rfl]
  | succ d ih =>
    intro k j hj hk
    obtain ⟨k, rfl⟩ : ∃ q, k = q + 1 := ⟨k - 1, by omega⟩
    have ha : j < a.length := by omega
    have hb : j < b.length := by omega
    rw [quitrentref01_Same.lo0, if_pos (by omega), if_pos (by omega), if_pos (by omega), rd_nat a j ha, rd_nat b j hb, List.drop_eq_getElem_cons ha, List.drop_eq_getElem_cons hb]
    by_cases h : a[j] = b[j]
    · rw [if_pos h, next_i j (by omega), ih k (j + 1) (by omega) (by omega), h]
      by_cases he : a.drop (j + 1) = b.drop (j + 1)
      · rw [if_pos he, if_pos (by rw [he])]
      · rw [if_neg he, if_neg (fun e => he (List.cons.inj e).2)]
    · rw [if_neg h, if_neg (fun e => h (List.cons.inj e).1)]
theorem same_eq (k : Nat) (a b : List Int) (hm : a.length < 4611686018427387904) (hk : a.length < k) : quitrentref01_Same.f k a b = some (decide (a = b)) := by
  unfold quitrentref01_Same.f
  by_cases hl : a.length = b.length
  · rw [if_pos (by omega)]
    have := same_lo a b hl hm a.length k 0 (by omega) hk
    simp only [List.drop_zero] at this
    rw [show ((0 : Nat) : Int) = 0 from rfl] at this
    rw [this]
    by_cases h : a = b
    · rw [if_pos h]; simp [M.Lp.elim, h]
    · rw [if_neg h]; simp [M.Lp.elim, h]
  · rw [if_neg (by omega)]
    congr 1
    exact (decide_eq_false (fun h => hl (by rw [h]))).symm
theorem begun : quitrentlaw04_begun.f = some true := by decide +kernel
theorem StoreNobody (i w : Int) (_ : (Lit.int .i64 i).wf = true) (_ : (Lit.int .u32 w).wf = true) : ∃ _k : Nat, quitrentlaw04_StoreNobody.f i w = some true := by
  refine ⟨0, ?_⟩
  unfold quitrentlaw04_StoreNobody.f
  simp [store_Store_Len.f, store_Store_Get_1.f, store_Store_has_1.f, store_Store_Put_1.f, store_Store_Meter_1.f, store_Store_Peek_1.f, store_Store_Words_1.f, store_Store_Load_1.f, begun]
theorem StoreKeeps (l : List Int) (i j w : Int) (_ : l.length ≤ maxLen) (hb : l.length * 4 ≤ 140737488351232) (_ : ∀ x ∈ l, (Lit.int .u32 x).wf = true) (_ : (Lit.int .i64 i).wf = true) (_ : (Lit.int .i64 j).wf = true) (_ : (Lit.int .u32 w).wf = true) : ∃ k : Nat, quitrentlaw04_StoreKeeps.f k l i j w = some true := by
  refine ⟨l.length + 1, ?_⟩
  unfold quitrentlaw04_StoreKeeps.f
  by_cases h : (l.length : Int) > 1000
  · by_cases h' : (l.length : Int) ≤ 8388608
    · rw [new_in _ (by omega) h']
      simp only [Option.bind_some, Sum.elim_inr]
      rw [if_pos h, begun]; rfl
    · rw [new_out _ (by omega)]
      simp only [Option.bind_some, Sum.elim_inl]
      rw [if_pos h, begun]; rfl
  · rw [new_in _ (by omega) (by omega)]
    simp only [Option.bind_some, Sum.elim_inr, Int.toNat_natCast]
    rw [if_neg h, load_eq, if_pos (by simp)]
    simp only [Option.bind_some, if_true]
    rw [peek_eq]
    simp only [Option.bind_some, store_Store_Meter.f, atomic_Uint64_Load.f]
    rw [put_eq]
    by_cases hi : 0 ≤ i ∧ i < (l.length : Int)
    · rw [if_pos hi]
      simp only [Option.bind_some, if_true]
      rw [get_eq, if_pos (by simpa using hi)]
      simp only [Option.bind_some]
      rw [if_pos (by rw [rd_set l i i w hi.1 hi.2 hi.1, if_pos rfl]), begun]
      have hw : IntKind.u64.wrap (IntKind.u64.wrap (0 + 1) + 1) = IntKind.u64.wrap (0 + 2) := by decide
      by_cases hij : i = j
      · rw [if_pos hij, if_pos hw]; rfl
      · rw [if_neg hij, peek_eq]
        simp only [Option.bind_some, List.length_set]
        rw [if_pos (show _ = _ by
          by_cases hj : 0 ≤ j ∧ j < (l.length : Int)
          · rw [if_pos hj, if_pos hj, rd_set l i j w hi.1 hi.2 hj.1, if_neg hij]
          · rw [if_neg hj, if_neg hj]), if_pos hw]
        try rfl
    · rw [if_neg hi]
      simp only [Option.bind_some]
      have hs : ((store_Store_Words.f l 0).bind fun t365 => (quitrentref01_Same.f (l.length + 1) t365 l).bind fun t411 => if t411 = true then ((quitrentlaw04_begun.f).bind fun t415 => some t415) else (some false)) = some true := by
        rw [words_eq l 0 (by omega)]
        simp only [Option.bind_some]
        rw [same_eq _ l l (by omega) (by omega)]
        simp [begun]
      by_cases h0 : i < 0
      · rw [if_pos h0]
        simpa using hs
      · rw [if_neg h0, if_pos (show i ≥ (l.length : Int) by omega)]
        simpa using hs
end Go.Proofs.Ytobeonkddamnoaa.V
