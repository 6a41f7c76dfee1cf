/- The laws of the group ChN on the plain functions. No condition. -/
import Derived.Test.YtobeonkddamnoaaMCh
import Derived.DataShut
import Derived.Laws.Bits64
import Derived.Laws.BitsLemmas
import Derived.RowKit
import Derived.KernelRfl
namespace Go.Proofs.Ytobeonkddamnoaa.V
open Go.RowKit Go.Proofs.Ytobeonkddamnoaa.C Go.Proofs.Ytobeonkddamnoaa.M Go.Proofs.YtobeonkddamnoaaW.PrintWords
theorem begun : quitrentlaw08_begun.f 300 = some true := by decide +kernel
theorem of_out (l : List Int) (m N W R K k : Int) (h : k ≠ 0) (h' : k ≠ 1) : chain_of.f l m N W R K k = some (0, 0, 0, false) := by
  unfold chain_of.f
  by_cases h0 : k < 0
  · rw [if_pos h0]
  · rw [if_neg h0, if_pos (by omega)]
theorem ChainNobody (k b : Int) (_ : (Lit.int .i64 k).wf = true) (_ : (Lit.int .i64 b).wf = true) : ∃ q, quitrentlaw08_ChainNobody.f q k b = some true := by
  refine ⟨300, ?_⟩
  have hn : ground_New.f 300 3 16 1 1 = some (.inr (.inl (3, 16, 1, 1, List.replicate 73 0))) := by kernel_rfl
  unfold quitrentlaw08_ChainNobody.f
  rw [hn, begun]
  simp only [Option.bind_some, Sum.elim_inr, Sum.elim_inl]
  have e1 : chain_Take_nil.f k = some (0, false) := by simp [chain_Take_nil.f, chain_of_nil.f]
  have e2 : chain_First_nil.f k = some (0, false) := by simp [chain_First_nil.f, chain_of_nil.f]
  have e3 : chain_Push_nil.f k b = some false := by simp [chain_Push_nil.f, chain_put_nil_F90.f, chain_of_nil.f]
  have e4 : chain_Add_nil.f k b = some false := by simp [chain_Add_nil.f, chain_put_nil_F89.f, chain_of_nil.f]
  have e5 : chain_Len_nil.f k = some 0 := by simp [chain_Len_nil.f, chain_of_nil.f]
  have e6 : chain_List_nil.f 300 k = some [] := by simp [chain_List_nil.f, chain_of_nil.f]
  rw [e1, e2, e3, e4, e5, e6]
  simp only [Option.bind_some, Bool.false_eq_true, if_false, if_true, List.length_nil]
  by_cases h0 : k = 0
  · simp [h0]
  · by_cases h1 : k = 1
    · simp [h1]
    · simp [h0, h1, chain_Take.f, chain_First.f, chain_Push.f, chain_Add.f, chain_put_F90.f, chain_put_F89.f, chain_Len.f, chain_List.f, of_out _ _ _ _ _ _ _ h0 h1]
end Go.Proofs.Ytobeonkddamnoaa.V
