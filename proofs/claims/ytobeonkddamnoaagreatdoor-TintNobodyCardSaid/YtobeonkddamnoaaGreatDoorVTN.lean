/- The laws of the group TN on the plain functions. No condition. -/
import Derived.Test.YtobeonkddamnoaaGreatDoorMTN
import Derived.DataShut
import Derived.Laws.Bits64
import Derived.Laws.BitsLemmas
import Derived.RowKit
import Derived.KernelRfl
namespace Go.Proofs.YtobeonkddamnoaaGreatDoor.V
open Go.RowKit Go.Proofs.YtobeonkddamnoaaGreatDoor.C Go.Proofs.YtobeonkddamnoaaGreatDoor.M Go.Proofs.YtobeonkddamnoaaGreatDoorW.PrintWords
theorem begun : quitrentlaw13_begun.f 300 = some true := by decide +kernel
theorem set_nil (i v : Int) : ∃ q, ground_Ground_SetReg_nil.f i v = some q ∧ q = false := by
  have hp : ∀ a b, store_Store_Put_nil.f a b = some false := fun a b => by simp [store_Store_Put_nil.f, store_Store_has_nil.f]
  have hs : ∀ a, ground_Ground_set_nil.f a v = some false := fun a => by
    unfold ground_Ground_set_nil.f ground_Ground_all_nil.f
    split
    · rfl
    · split
      · rfl
      · simp [hp]
  have hr : ∃ q, ground_reg.f i = some q := by
    unfold ground_reg.f ground_within.f
    split
    · exact ⟨_, rfl⟩
    · split <;> exact ⟨_, rfl⟩
  obtain ⟨q, hq⟩ := hr
  refine ⟨false, ?_, rfl⟩
  unfold ground_Ground_SetReg_nil.f
  rw [hq]
  simp [hs]
theorem setnil (i v : Int) : ground_Ground_SetReg_nil.f i v = some false := by
  obtain ⟨q, h, rfl⟩ := set_nil i v
  exact h
theorem move_nil (a b : Int) : tint_Move_nil.f a b = some false := by
  have hf : ∀ x, ∃ q, tint_fits.f x = some q := fun x => by
    unfold tint_fits.f
    split <;> exact ⟨_, rfl⟩
  obtain ⟨q, hq⟩ := hf a
  obtain ⟨p, hp⟩ := hf b
  unfold tint_Move_nil.f
  rw [hq, hp]
  simp [setnil]
theorem TintNobody (r i : Int) (_ : (Lit.int .i64 r).wf = true) (_ : (Lit.int .i64 i).wf = true) : ∃ k, quitrentlaw13_TintNobody.f k r i = some true := by
  refine ⟨300, ?_⟩
  have e0 : tint_Parity_nil.f = some 0 := by kernel_rfl
  have e1 : tint_Phase_nil.f = some 0 := by kernel_rfl
  have e2 : tint_At_nil.f = some (0, 0) := by kernel_rfl
  have e3 : tint_Turn_nil.f = some () := by kernel_rfl
  unfold quitrentlaw13_TintNobody.f
  rw [e0, e1, e2, e3, move_nil, begun]
  simp [tint_Begin_nil.f, tint_Dye_nil.f, tint_change_nil_F52.f, tint_of_nil.f, tint_Black_nil.f, tint_Paint_nil.f, tint_change_nil_F59.f, tint_Touch_nil.f, tint_Dead_nil.f, tint_Kill_nil.f, tint_change_nil_F60.f, tint_Shadow_nil.f, tint_Deepen_nil.f, tint_change_nil_F54.f, tint_Lighten_nil.f, tint_Counted_nil.f, tint_Done_nil.f, tint_change_nil_F62.f, e1]
end Go.Proofs.YtobeonkddamnoaaGreatDoor.V
