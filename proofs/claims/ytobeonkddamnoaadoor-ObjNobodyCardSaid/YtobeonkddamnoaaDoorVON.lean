/- The laws of the group ON on the plain functions. No condition. -/
import Derived.Test.YtobeonkddamnoaaDoorMON
import Derived.DataShut
import Derived.Laws.Bits64
import Derived.Laws.BitsLemmas
import Derived.RowKit
import Derived.KernelRfl
namespace Go.Proofs.YtobeonkddamnoaaDoor.V
open Go.RowKit Go.Proofs.YtobeonkddamnoaaDoor.C Go.Proofs.YtobeonkddamnoaaDoor.M Go.Proofs.YtobeonkddamnoaaDoorW.PrintWords
theorem begun : quitrentlaw11_begun.f 300 = some true := by decide +kernel
theorem in_nil (r : Int) : obj_in_nil.f r = some false := by
  unfold obj_in_nil.f ground_Ground_Conf_nil.f
  by_cases h : r > 0
  · rw [if_pos h]
    simp only [Option.bind_some]
    congr 1
    exact decide_eq_false (by omega)
  · rw [if_neg h]
theorem is_nil (r : Int) : obj_Is_nil.f r = some false := by unfold obj_Is_nil.f; rw [in_nil]; rfl
theorem lens_nil (r : Int) : obj_Lens_nil.f r = some (0, 0, 8) := by unfold obj_Lens_nil.f; rw [is_nil]; rfl
theorem field_nil (k : Nat) (r i : Int) (b : Bool) : obj_field_nil.f k r i b = some (0, 0, 8) := by unfold obj_field_nil.f; rw [lens_nil]; rfl
theorem blocks_nil (k : Nat) (r : Int) : obj_Blocks_nil.f k r = some 0 := by unfold obj_Blocks_nil.f; rw [lens_nil]; rfl
theorem shed_nil (k : Nat) (r i : Int) : obj_Shed_nil.f k r i = some false := by
  unfold obj_Shed_nil.f
  by_cases h : i < 0
  · rw [if_pos h]
  · rw [if_neg h, blocks_nil]
    simp only [Option.bind_some]
    rw [if_pos (show i ≥ wrap64 (0 - 1) by unfold wrap64; omega)]
theorem make_nil (k : Nat) (a b : Int) : obj_Make_nil.f k a b = some (0, 1) := by
  have hw : shape_wrong.f k 0 [a, b] = some 1 := by
    unfold shape_wrong.f shape_isWidth.f
    rw [if_neg (by decide)]; rfl
  unfold obj_Make_nil.f ground_Ground_Conf_nil.f shape_Blocks.f
  simp only [Option.bind_some]
  rw [hw]; rfl
theorem ObjNobody (r i x : Int) (_ : (Lit.int .i64 r).wf = true) (_ : (Lit.int .i64 i).wf = true) (_ : (Lit.int .i64 x).wf = true) : ∃ k, quitrentlaw11_ObjNobody.f k r i x = some true := by
  refine ⟨300, ?_⟩
  have h1 : obj_Ptr_nil.f 300 r i = some (0, 8) := by unfold obj_Ptr_nil.f; rw [field_nil]; rfl
  have h2 : obj_Data_nil.f 300 r i = some (0, 8) := by unfold obj_Data_nil.f; rw [field_nil]; rfl
  have h3 : ∃ a b, obj_See_nil.f 300 r = some (false, a, b) := by unfold obj_See_nil.f; rw [in_nil]; exact ⟨_, _, rfl⟩
  obtain ⟨p, q, h3⟩ := h3
  have h4 : obj_SetPtr_nil.f 300 r i x = some 8 := by unfold obj_SetPtr_nil.f; rw [field_nil]; rfl
  have h5 : obj_SetData_nil.f 300 r i 1 = some 8 := by unfold obj_SetData_nil.f; rw [field_nil]; rfl
  have h6 : obj_End_nil.f r = some false := by unfold obj_End_nil.f; rw [is_nil]; rfl
  unfold quitrentlaw11_ObjNobody.f
  rw [make_nil, h1, h2, lens_nil, h3, h4, h5, is_nil, blocks_nil, shed_nil, h6, begun]
  simp
end Go.Proofs.YtobeonkddamnoaaDoor.V
