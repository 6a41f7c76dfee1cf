/- The laws of the group Sp on the plain functions. No condition. -/
import Derived.Test.YtobeonkddamnoaaMSp
import Derived.DataShut
import Derived.Laws.Bits64
import Derived.Laws.BitsLemmas
import Derived.RowKit
import Derived.KernelRfl
namespace Go.Proofs.Ytobeonkddamnoaa.V
open Go.RowKit Go.Proofs.Ytobeonkddamnoaa.C Go.Proofs.Ytobeonkddamnoaa.M Go.Proofs.YtobeonkddamnoaaW.PrintWords
set_option linter.unusedVariables false
set_option linter.unusedSimpArgs false
theorem wrap64_id {n : Int} (h0 : -9223372036854775808 ≤ n) (h1 : n ≤ 9223372036854775807) : wrap64 n = n := by unfold wrap64; omega
theorem has_eq (l : List Int) (m a : Int) : store_Store_has.f l m a = some (decide (0 ≤ a ∧ a < (l.length : Int))) := by
  unfold store_Store_has.f
  by_cases h : a ≥ 0
  · rw [if_pos h]; congr 1; exact decide_eq_decide.2 (by omega)
  · rw [if_neg h]; congr 1; exact (decide_eq_false (by omega)).symm
theorem put_eq (l : List Int) (m i w : Int) : store_Store_Put.f l m i w = some (if 0 ≤ i ∧ i < (l.length : Int) then (true, IntKind.u64.wrap (m + 1), l.set i.toNat w) else (false, m, l)) := by
  unfold store_Store_Put.f
  rw [has_eq]
  simp only [Option.bind_some, decide_eq_true_eq]
  by_cases h : 0 ≤ i ∧ i < (l.length : Int)
  · rw [if_pos h, if_pos h]
    simp only [atomic_Uint64_Add.f, Option.bind_some]
    rw [if_pos h.1, if_pos h.2]
  · rw [if_neg h, if_neg h]
theorem get_eq (l : List Int) (m i : Int) : store_Store_Get.f l m i = some (if 0 ≤ i ∧ i < (l.length : Int) then (rd l i, IntKind.u64.wrap (m + 1)) else (0, m)) := by
  unfold store_Store_Get.f
  rw [has_eq]
  simp only [Option.bind_some, decide_eq_true_eq]
  by_cases h : 0 ≤ i ∧ i < (l.length : Int)
  · rw [if_pos h, if_pos h]
    simp only [atomic_Uint64_Add.f, Option.bind_some]
    rw [if_pos h.1, if_pos h.2]
  · rw [if_neg h, if_neg h]
theorem peek_eq (l : List Int) (m i : Int) : store_Store_Peek.f l m i = some (if 0 ≤ i ∧ i < (l.length : Int) then rd l i else 0) := by
  unfold store_Store_Peek.f
  rw [has_eq]
  simp only [Option.bind_some, decide_eq_true_eq]
  by_cases h : 0 ≤ i ∧ i < (l.length : Int)
  · rw [if_pos h, if_pos h, if_pos h.1, if_pos h.2]
  · rw [if_neg h, if_neg h]
theorem new_in (n : Int) (h0 : 0 ≤ n) (h1 : n ≤ 8388608) : store_New.f n = some (.inr (List.replicate n.toNat 0)) := by
  unfold store_New.f
  rw [if_neg (by omega), if_neg (by omega)]
  unfold M.mkLen
  rw [if_pos (by omega)]
  rfl
theorem new_out (n : Int) (h : n < 0 ∨ 8388608 < n) : store_New.f n = some (.inl ()) := by
  unfold store_New.f
  by_cases h0 : n < 0
  · rw [if_pos h0]
  · rw [if_neg h0, if_pos (by omega)]
theorem load_eq (l : List Int) (m : Int) (l2 : List Int) : store_Store_Load.f l m l2 = some (if l2.length = l.length then (true, l2) else (false, l)) := by
  unfold store_Store_Load.f
  by_cases h : l2.length = l.length
  · rw [if_pos (by omega), if_pos h]
    simp only [Option.bind_some]
    rw [show min l2.length l.length = l.length by omega, List.take_of_length_le (by omega), List.drop_of_length_le (by omega), List.append_nil]
  · rw [if_neg (by omega), if_neg h]
theorem words_eq (l : List Int) (m : Int) (h : l.length ≤ 35184372088832) : store_Store_Words.f l m = some l := by
  unfold store_Store_Words.f slices_Clone_uint32_uint32.f
  rw [if_pos h]; rfl
theorem rd_nat (l : List Int) (j : Nat) (h : j < l.length) : rd l (j : Int) = l[j] := by
  simp [rd, List.getD_eq_getElem?_getD, List.getElem?_eq_getElem h]
theorem rd_set (l : List Int) (i j : Int) (x : Int) (h0 : 0 ≤ i) (h1 : i < (l.length : Int)) (h2 : 0 ≤ j) : rd (l.set i.toNat x) j = if i = j then x else rd l j := by
  simp only [rd, List.getD_eq_getElem?_getD, List.getElem?_set]
  by_cases h : i = j
  · subst h; rw [if_pos rfl, if_pos (show i.toNat < l.length by omega), if_pos rfl]; rfl
  · rw [if_neg (show ¬ i.toNat = j.toNat by omega), if_neg h]
theorem next_i (j : Nat) (h : j < 4611686018427387904) : wrap64 ((j : Int) + 1) = ((j + 1 : Nat) : Int) := by
  unfold wrap64; omega
theorem same_lo (a b : List Int) (hl : a.length = b.length) (hm : a.length < 4611686018427387904) : ∀ (d k j : Nat), j + d = a.length → d < k → quitrentref01_Same.lo0 k a b (j : Int) = some (if a.drop j = b.drop j then .out () else .ret false) := by
  intro d
  induction d with
  | zero =>
    intro k j hj hk
    obtain ⟨k, rfl⟩ : ∃ q, k = q + 1 := ⟨k - 1, by omega⟩
    rw [quitrentref01_Same.lo0, if_neg (by omega), List.drop_of_length_le (by omega), List.drop_of_length_le (by omega), if_pos rfl]
  | succ d ih =>
    intro k j hj hk
    obtain ⟨k, rfl⟩ : ∃ q, k = q + 1 := ⟨k - 1, by omega⟩
    have ha : j < a.length := by omega
    have hb : j < b.length := by omega
    rw [quitrentref01_Same.lo0, if_pos (by omega), if_pos (by omega), if_pos (by omega), rd_nat a j ha, rd_nat b j hb, List.drop_eq_getElem_cons ha, List.drop_eq_getElem_cons hb]
    by_cases h : a[j] = b[j]
    · rw [if_pos h, next_i j (by omega), ih k (j + 1) (by omega) (by omega), h]
      by_cases he : a.drop (j + 1) = b.drop (j + 1)
      · rw [if_pos he, if_pos (by rw [he])]
      · rw [if_neg he, if_neg (fun e => he (List.cons.inj e).2)]
    · rw [if_neg h, if_neg (fun e => h (List.cons.inj e).1)]
theorem same_eq (k : Nat) (a b : List Int) (hm : a.length < 4611686018427387904) (hk : a.length < k) : quitrentref01_Same.f k a b = some (decide (a = b)) := by
  unfold quitrentref01_Same.f
  by_cases hl : a.length = b.length
  · rw [if_pos (by omega)]
    have := same_lo a b hl hm a.length k 0 (by omega) hk
    simp only [List.drop_zero] at this
    rw [show ((0 : Nat) : Int) = 0 from rfl] at this
    rw [this]
    by_cases h : a = b
    · rw [if_pos h]; simp [M.Lp.elim, h]
    · rw [if_neg h]; simp [M.Lp.elim, h]
  · rw [if_neg (by omega)]
    congr 1
    exact (decide_eq_false (fun h => hl (by rw [h]))).symm
theorem rhas_eq (l : List Int) (m a : Int) : quitrentref04_Store_Has.f l m a = some (decide (0 ≤ a ∧ a < (l.length : Int))) := by
  unfold quitrentref04_Store_Has.f
  by_cases h : a ≥ 0
  · rw [if_pos h]; congr 1; exact decide_eq_decide.2 (by omega)
  · rw [if_neg h]; congr 1; exact (decide_eq_false (by omega)).symm
theorem rget_eq (l : List Int) (m i : Int) : quitrentref04_Store_Get.f l m i = some (if 0 ≤ i ∧ i < (l.length : Int) then (rd l i, IntKind.u64.wrap (m + 1)) else (0, m)) := by
  unfold quitrentref04_Store_Get.f
  rw [rhas_eq]
  simp only [Option.bind_some, decide_eq_true_eq]
  by_cases h : 0 ≤ i ∧ i < (l.length : Int)
  · rw [if_pos h, if_pos h, if_pos h.1, if_pos h.2]
  · rw [if_neg h, if_neg h]
theorem rput_eq (l : List Int) (m i w : Int) : quitrentref04_Store_Put.f l m i w = some (if 0 ≤ i ∧ i < (l.length : Int) then (true, IntKind.u64.wrap (m + 1), l.set i.toNat w) else (false, m, l)) := by
  unfold quitrentref04_Store_Put.f
  rw [rhas_eq]
  simp only [Option.bind_some, decide_eq_true_eq]
  by_cases h : 0 ≤ i ∧ i < (l.length : Int)
  · rw [if_pos h, if_pos h, if_pos h.1, if_pos h.2]
  · rw [if_neg h, if_neg h]
theorem both_eq {X : Bool × Int × List Int} : (if X.1 = true then (if X.1 = true then (some (true, X.2.1, X.2.2, X.2.1, X.2.2)) else (some (false, X.2.1, X.2.2, X.2.1, X.2.2))) else (if X.1 = true then (some (false, X.2.1, X.2.2, X.2.1, X.2.2)) else (some (true, X.2.1, X.2.2, X.2.1, X.2.2)))) = some (true, X.2.1, X.2.2, X.2.1, X.2.2) := by
  by_cases h : X.1 = true
  · rw [if_pos h, if_pos h]
  · rw [if_neg h, if_neg h]
theorem do_eq (l : List Int) (hl : l.length ≤ 255) (m : Int) (k : Nat) (hk : 300 ≤ k) (kd i w : Int) (L : List Int) :
    ∃ m' l', quitrentlaw04_do.f k l m l m kd i w L = some (true, m', l', m', l') ∧ l'.length ≤ 255 := by
  unfold quitrentlaw04_do.f
  by_cases h0 : kd = 0
  · rw [if_pos h0, get_eq, rget_eq]
    simp only [Option.bind_some]
    exact ⟨_, _, by rw [beq_self_eq_true], hl⟩
  rw [if_neg h0]
  by_cases h1 : kd = 1
  · rw [if_pos h1, put_eq, rput_eq]
    simp only [Option.bind_some]
    refine ⟨_, _, both_eq, ?_⟩
    split
    · rw [List.length_set]; exact hl
    · exact hl
  rw [if_neg h1]
  by_cases h2 : kd = 2
  · rw [if_pos h2, rhas_eq]
    simp only [Option.bind_some, decide_eq_true_eq]
    rw [peek_eq]
    simp only [Option.bind_some]
    by_cases h : 0 ≤ i ∧ i < (l.length : Int)
    · rw [if_pos h, if_pos h.1, if_pos h.2, if_pos h]
      exact ⟨_, _, by rw [beq_self_eq_true], hl⟩
    · rw [if_neg h, if_neg h]
      exact ⟨_, _, rfl, hl⟩
  rw [if_neg h2]
  by_cases h3 : kd = 3
  · rw [if_pos h3, words_eq l m (by omega)]
    simp only [Option.bind_some]
    rw [same_eq k l l (by omega) (by omega)]
    simp only [Option.bind_some]
    exact ⟨m, l, by simp, hl⟩
  rw [if_neg h3]
  by_cases h4 : kd = 4
  · rw [if_pos h4, load_eq]
    by_cases h : L.length = l.length
    · rw [if_pos (by omega), if_pos h]
      simp only [Option.bind_some, if_true]
      rw [show min L.length l.length = l.length by omega, List.take_of_length_le (by omega), List.drop_of_length_le (by omega), List.append_nil]
      exact ⟨_, _, rfl, by omega⟩
    · rw [if_neg (by omega), if_neg h]
      exact ⟨_, _, rfl, hl⟩
  rw [if_neg h4]
  unfold store_Store_Len.f
  exact ⟨m, l, by simp only [Option.bind_some, beq_self_eq_true], hl⟩
theorem plays (L : List (Int × Int × Int × List Int)) (hL : L.length ≤ 200) : ∀ (d k j : Nat) (l : List Int) (m : Int), l.length ≤ 255 → j + d = L.length → d + 300 < k →
    ∃ l' m', quitrentlaw04_StorePlays.lo0 k L (j : Int) l l m m = some (.out (l', l', m', m')) ∧ l'.length ≤ 255 := by
  intro d
  induction d with
  | zero =>
    intro k j l m h hj hk
    obtain ⟨k, rfl⟩ : ∃ q, k = q + 1 := ⟨k - 1, by omega⟩
    exact ⟨l, m, by rw [quitrentlaw04_StorePlays.lo0, if_neg (by omega)], h⟩
  | succ d ih =>
    intro k j l m h hj hk
    obtain ⟨k, rfl⟩ : ∃ q, k = q + 1 := ⟨k - 1, by omega⟩
    obtain ⟨m1, l1, e, h1⟩ := do_eq l h m k (by omega) (rdOf (0, 0, 0, []) L (j : Int)).1 (rdOf (0, 0, 0, []) L (j : Int)).2.1 (rdOf (0, 0, 0, []) L (j : Int)).2.2.1 (rdOf (0, 0, 0, []) L (j : Int)).2.2.2
    obtain ⟨l', m', e', h'⟩ := ih k (j + 1) l1 m1 h1 (by omega) (by omega)
    refine ⟨l', m', ?_, h'⟩
    rw [quitrentlaw04_StorePlays.lo0, if_pos (by omega), if_pos (by omega), e]
    simp only [Option.bind_some, if_true, store_Store_Meter.f, atomic_Uint64_Load.f]
    rw [next_i j (by omega)]
    exact e'
theorem begunL : quitrentlaw04_begun.f = some true := by decide +kernel
theorem bind_is {α β : Type} {x : Option α} {a : α} (h : x = some a) (f : α → Option β) : x.bind f = f a := by rw [h]; rfl
theorem StorePlays (n : Int) (L : List (Int × Int × Int × List Int)) (hn : (Lit.int .u8 n).wf = true) (_ : L.length ≤ 9223372036854775807)
    (_ : ∀ x ∈ L, (Lit.int .u8 x.1).wf = true ∧ (Lit.int .i64 x.2.1).wf = true ∧ (Lit.int .u32 x.2.2.1).wf = true ∧ ∀ z ∈ x.2.2.2, (Lit.int .u32 z).wf = true) : ∃ k, quitrentlaw04_StorePlays.f k n L = some true := by
  rw [Lit.wf_int_iff] at hn
  have q0 : 0 ≤ n := hn.1
  have q1 : n ≤ 255 := hn.2
  have hb := begunL
  obtain ⟨k, hk⟩ : ∃ k : Nat, k = 1000 := ⟨_, rfl⟩
  refine ⟨k, ?_⟩
  unfold quitrentlaw04_StorePlays.f
  by_cases h2 : (L.length : Int) > 200
  · rw [if_pos h2]; exact bind_is hb _
  rw [if_neg h2, wrap64_id (by omega) (by omega)]
  refine Eq.trans (bind_is (new_in n q0 (by omega)) _) ?_
  show ((quitrentref04_New.f n).bind _) = _
  have en : quitrentref04_New.f n = some (List.replicate n.toNat 0) := by
    unfold quitrentref04_New.f M.mkLen
    rw [if_pos (by omega)]; rfl
  refine Eq.trans (bind_is en _) ?_
  obtain ⟨l', m', e, h'⟩ := plays L (by omega) L.length k 0 (List.replicate n.toNat 0) 0 (by simp; omega) (by omega) (by omega)
  have e' : quitrentlaw04_StorePlays.lo0 k L 0 (List.replicate n.toNat 0) (List.replicate n.toNat 0) 0 0 = some (.out (l', l', m', m')) := e
  refine Eq.trans (bind_is e' _) ?_
  simp only [M.Lp.elim]
  refine Eq.trans (bind_is hb _) ?_
  show (if true = true then _ else _) = _
  rw [if_pos rfl]
  refine Eq.trans (bind_is (words_eq l' m' (by omega)) _) ?_
  refine Eq.trans (bind_is (same_eq k l' l' (by omega) (by omega)) _) ?_
  simp
end Go.Proofs.Ytobeonkddamnoaa.V
