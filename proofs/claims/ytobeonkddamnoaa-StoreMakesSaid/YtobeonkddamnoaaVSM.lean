/- The laws of the group SM on the plain functions. No condition. -/
import Derived.Test.YtobeonkddamnoaaMSM
import Derived.DataShut
import Derived.Laws.Bits64
import Derived.Laws.BitsLemmas
import Derived.RowKit
import Derived.KernelRfl
namespace Go.Proofs.Ytobeonkddamnoaa.V
open Go.RowKit Go.Proofs.Ytobeonkddamnoaa.C Go.Proofs.Ytobeonkddamnoaa.M Go.Proofs.YtobeonkddamnoaaW.PrintWords
theorem has_eq (l : List Int) (m a : Int) : store_Store_has.f l m a = some (decide (0 ≤ a ∧ a < (l.length : Int))) := by
  unfold store_Store_has.f
  by_cases h : a ≥ 0
  · rw [if_pos h]; congr 1; exact decide_eq_decide.2 (by omega)
  · rw [if_neg h]; congr 1; exact (decide_eq_false (by omega)).symm
theorem put_eq (l : List Int) (m i w : Int) : store_Store_Put.f l m i w = some (if 0 ≤ i ∧ i < (l.length : Int) then (true, IntKind.u64.wrap (m + 1), l.set i.toNat w) else (false, m, l)) := by
  unfold store_Store_Put.f
  rw [has_eq]
  simp only [Option.bind_some, decide_eq_true_eq]
  by_cases h : 0 ≤ i ∧ i < (l.length : Int)
  · rw [if_pos h, if_pos h]
    simp only [atomic_Uint64_Add.f, Option.bind_some]
    rw [if_pos h.1, if_pos h.2]
  · rw [if_neg h, if_neg h]
theorem get_eq (l : List Int) (m i : Int) : store_Store_Get.f l m i = some (if 0 ≤ i ∧ i < (l.length : Int) then (rd l i, IntKind.u64.wrap (m + 1)) else (0, m)) := by
  unfold store_Store_Get.f
  rw [has_eq]
  simp only [Option.bind_some, decide_eq_true_eq]
  by_cases h : 0 ≤ i ∧ i < (l.length : Int)
  · rw [if_pos h, if_pos h]
    simp only [atomic_Uint64_Add.f, Option.bind_some]
    rw [if_pos h.1, if_pos h.2]
  · rw [if_neg h, if_neg h]
theorem peek_eq (l : List Int) (m i : Int) : store_Store_Peek.f l m i = some (if 0 ≤ i ∧ i < (l.length : Int) then rd l i else 0) := by
  unfold store_Store_Peek.f
  rw [has_eq]
  simp only [Option.bind_some, decide_eq_true_eq]
  by_cases h : 0 ≤ i ∧ i < (l.length : Int)
  · rw [if_pos h, if_pos h, if_pos h.1, if_pos h.2]
  · rw [if_neg h, if_neg h]
theorem new_in (n : Int) (h0 : 0 ≤ n) (h1 : n ≤ 8388608) : store_New.f n = some (.inr (List.replicate n.toNat 0)) := by
  unfold store_New.f
  rw [if_neg (by omega), if_neg (by omega)]
  unfold M.mkLen
  rw [if_pos (by omega)]
  rfl
theorem new_out (n : Int) (h : n < 0 ∨ 8388608 < n) : store_New.f n = some (.inl ()) := by
  unfold store_New.f
  by_cases h0 : n < 0
  · rw [if_pos h0]
  · rw [if_neg h0, if_pos (by omega)]
theorem load_eq (l : List Int) (m : Int) (l2 : List Int) : store_Store_Load.f l m l2 = some (if l2.length = l.length then (true, l2) else (false, l)) := by
  unfold store_Store_Load.f
  by_cases h : l2.length = l.length
  · rw [if_pos (by omega), if_pos h]
    simp only [Option.bind_some]
    rw [show min l2.length l.length = l.length by omega, List.take_of_length_le (by omega), List.drop_of_length_le (by omega), List.append_nil]
  · rw [if_neg (by omega), if_neg h]
theorem words_eq (l : List Int) (m : Int) (h : l.length ≤ 35184372088832) : store_Store_Words.f l m = some l := by
  unfold store_Store_Words.f slices_Clone_uint32_uint32.f
  rw [if_pos h]; rfl
theorem rd_nat (l : List Int) (j : Nat) (h : j < l.length) : rd l (j : Int) = l[j] := by
  simp [rd, List.getD_eq_getElem?_getD, List.getElem?_eq_getElem h]
theorem rd_set (l : List Int) (i j : Int) (x : Int) (h0 : 0 ≤ i) (h1 : i < (l.length : Int)) (h2 : 0 ≤ j) : rd (l.set i.toNat x) j = if i = j then x else rd l j := by
  simp only [rd, List.getD_eq_getElem?_getD, List.getElem?_set]
  by_cases h : i = j
  · subst h; rw [if_pos rfl, if_pos (show i.toNat < l.length by omega), if_pos rfl]; rfl
  · rw [if_neg (show ¬ i.toNat = j.toNat by omega), if_neg h]
theorem next_i (j : Nat) (h : j < 4611686018427387904) : wrap64 ((j : Int) + 1) = ((j + 1 : Nat) : Int) := by
  unfold wrap64; omega
theorem begun : quitrentlaw04_begun.f = some true := by decide +kernel
theorem rd_zero (n : Nat) (i : Int) : rd (List.replicate n (0 : Int)) i = 0 := by
  simp only [rd, List.getD_eq_getElem?_getD, List.getElem?_replicate]
  split <;> rfl
theorem makes (n at_ : Int) (h0 : 0 ≤ n) (h1 : n ≤ 5000) : ((store_New.f n).bind fun t214 => Sum.elim (fun (_ : Unit) => if n < 0 then ((quitrentlaw04_begun.f).bind fun t220 => some t220) else (if n > 8388608 then ((quitrentlaw04_begun.f).bind fun t220 => some t220) else (some false))) (fun (t217 : List Int) => if n < 0 then (some false) else (if n > 8388608 then (some false) else ((store_Store_Len.f t217 0).bind fun t246 => if t246 = n then ((store_Store_Words.f t217 0).bind fun t287 => if (t287.length : Int) = n then ((store_Store_Meter.f t217 0).bind fun t296 => if t296 = 0 then ((store_Store_Words.f t217 0).bind fun t300 => if at_ ≥ 0 then (if at_ < n then (if 0 ≤ at_ then (if at_ < (t300.length : Int) then ((some (t300.set (at_).toNat 9)).bind fun y314 => (store_Store_Peek.f t217 0 at_).bind fun t338 => if t338 = 0 then ((store_Store_Load.f t217 0 y314).bind fun t365 => if t365.1 = true then ((store_Store_Peek.f t365.2 0 at_).bind fun t369 => if t369 = 9 then ((store_Store_Meter.f t365.2 0).bind fun t373 => if t373 = 0 then ((quitrentlaw04_begun.f).bind fun t377 => some t377) else (some false)) else (some false)) else (some false)) else (some false)) else (none)) else (none)) else ((quitrentlaw04_begun.f).bind fun t380 => some t380)) else ((quitrentlaw04_begun.f).bind fun t380 => some t380)) else (some false)) else (some false)) else (some false)))) t214) = some true := by
  rw [new_in n h0 (by omega)]
  simp only [Option.bind_some, Sum.elim_inr]
  rw [if_neg (by omega), if_neg (by omega)]
  generalize hl : List.replicate n.toNat (0 : Int) = l
  have hlen : (l.length : Int) = n := by subst hl; simp; omega
  have hz : ∀ i, rd l i = 0 := fun i => by subst hl; exact rd_zero _ i
  have hL : store_Store_Len.f l 0 = some (l.length : Int) := rfl
  rw [hL]
  simp only [Option.bind_some]
  rw [if_pos hlen, words_eq l 0 (by omega)]
  simp only [Option.bind_some]
  rw [if_pos hlen]
  simp only [store_Store_Meter.f, atomic_Uint64_Load.f, Option.bind_some, if_true]
  by_cases ha : at_ ≥ 0
  · rw [if_pos ha]
    by_cases hb : at_ < n
    · rw [if_pos hb, if_pos ha, if_pos (by omega), peek_eq]
      simp only [Option.bind_some]
      rw [if_pos (by rw [if_pos ⟨ha, by omega⟩]; exact hz at_), load_eq, if_pos (by simp)]
      simp only [Option.bind_some, if_true]
      rw [peek_eq]
      simp only [Option.bind_some]
      rw [if_pos (by rw [if_pos ⟨ha, by rw [List.length_set]; omega⟩, rd_set l at_ at_ 9 ha (by omega) ha, if_pos rfl]), begun]; rfl
    · rw [if_neg hb, begun]; rfl
  · rw [if_neg ha, begun]; rfl
theorem StoreMakes (n at_ : Int) (_ : (Lit.int .i64 n).wf = true) (_ : (Lit.int .i64 at_).wf = true) : ∃ _k : Nat, quitrentlaw04_StoreMakes.f n at_ = some true := by
  refine ⟨0, ?_⟩
  unfold quitrentlaw04_StoreMakes.f
  by_cases h : n > 5000
  · rw [if_pos h]
    by_cases h2 : n ≤ 8388608
    · rw [if_pos h2, begun]; rfl
    · rw [if_neg h2, new_out n (by omega)]
      simp only [Option.bind_some, Sum.elim_inl]
      rw [if_neg (by omega), if_pos (by omega), begun]; rfl
  · rw [if_neg h]
    by_cases h0 : n < 0
    · rw [new_out n (by omega)]
      simp only [Option.bind_some, Sum.elim_inl]
      rw [if_pos h0, begun]; rfl
    · exact makes n at_ (by omega) (by omega)
end Go.Proofs.Ytobeonkddamnoaa.V
