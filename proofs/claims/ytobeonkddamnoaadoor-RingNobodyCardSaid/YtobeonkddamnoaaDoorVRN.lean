/- The laws of the group RN on the plain functions. No condition. -/
import Derived.Test.YtobeonkddamnoaaDoorMRN
import Derived.DataShut
import Derived.Laws.Bits64
import Derived.Laws.BitsLemmas
import Derived.RowKit
import Derived.KernelRfl
namespace Go.Proofs.YtobeonkddamnoaaDoor.V
open Go.RowKit Go.Proofs.YtobeonkddamnoaaDoor.C Go.Proofs.YtobeonkddamnoaaDoor.M Go.Proofs.YtobeonkddamnoaaDoorW.PrintWords
theorem begun : quitrentlaw09_begun.f 300 = some true := by decide +kernel
theorem RingNobody (b : Int) (_ : (Lit.int .i64 b).wf = true) : ∃ k, quitrentlaw09_RingNobody.f k b = some true := by
  refine ⟨300, ?_⟩
  unfold quitrentlaw09_RingNobody.f
  simp [ring_Take_nil.f, ring_Add_nil.f, ring_Cut_nil.f, ring_Len_nil.f, ring_Has_nil.f, ring_List_nil.f, ring_marked_nil.f, begun]
end Go.Proofs.YtobeonkddamnoaaDoor.V
