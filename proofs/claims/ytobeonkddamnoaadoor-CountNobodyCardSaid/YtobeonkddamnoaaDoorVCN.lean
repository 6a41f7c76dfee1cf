/- The laws of the group CN on the plain functions. No condition. -/
import Derived.Test.YtobeonkddamnoaaDoorMCN
import Derived.DataShut
import Derived.Laws.Bits64
import Derived.Laws.BitsLemmas
import Derived.RowKit
import Derived.KernelRfl
namespace Go.Proofs.YtobeonkddamnoaaDoor.V
open Go.RowKit Go.Proofs.YtobeonkddamnoaaDoor.C Go.Proofs.YtobeonkddamnoaaDoor.M Go.Proofs.YtobeonkddamnoaaDoorW.PrintWords
theorem begun : quitrentlaw12_begun.f 300 = some true := by decide +kernel
theorem one : quitrentlaw12_CountNobody.f 300 1 = some true := by decide +kernel
theorem two : quitrentlaw12_CountNobody.f 300 2 = some true := by decide +kernel
theorem three : quitrentlaw12_CountNobody.f 300 3 = some true := by decide +kernel
def opened : Bool := match quitrentlaw12_Opened.f 300 3 16 1 1 with
  | some (.inr (.inl s)) => s.1 && s.2.1 == 3
  | _ => false
theorem opened_ok : opened = true := by decide +kernel
theorem in_nil (r : Int) : obj_in_nil.f r = some false := by
  unfold obj_in_nil.f ground_Ground_Conf_nil.f
  by_cases h : r > 0
  · rw [if_pos h]
    simp only [Option.bind_some]
    congr 1
    exact decide_eq_false (by omega)
  · rw [if_neg h]
theorem is_nil (r : Int) : obj_Is_nil.f r = some false := by unfold obj_Is_nil.f; rw [in_nil]; rfl
theorem in_out (l : List Int) (m N W R K r : Int) (h : r ≤ 0 ∨ N < r) : obj_in.f l m N W R K r = some false := by
  unfold obj_in.f ground_Ground_Conf.f
  by_cases h0 : r > 0
  · rw [if_pos h0]
    simp only [Option.bind_some]
    congr 1
    exact decide_eq_false (by omega)
  · rw [if_neg h0]
theorem is_out (l : List Int) (m N W R K r : Int) (h : r ≤ 0 ∨ N < r) : obj_Is.f l m N W R K r = some (false, m) := by unfold obj_Is.f; rw [in_out _ _ _ _ _ _ _ h]; rfl
theorem CountNobody (r : Int) (_ : (Lit.int .i64 r).wf = true) : ∃ k, quitrentlaw12_CountNobody.f k r = some true := by
  refine ⟨300, ?_⟩
  by_cases h1 : r = 1
  · rw [h1]; exact one
  by_cases h2 : r = 2
  · rw [h2]; exact two
  by_cases h3 : r = 3
  · rw [h3]; exact three
  have hr : r ≤ 0 ∨ 3 < r := by omega
  have e1 : count_Up_nil.f r = some (0, false) := by unfold count_Up_nil.f count_change_nil.f; rw [is_nil]; rfl
  have e2 : count_Down_nil.f r = some (0, false) := by unfold count_Down_nil.f count_change_nil.f; rw [is_nil]; rfl
  have e3 : count_Of_nil.f r = some 0 := by unfold count_Of_nil.f; rw [is_nil]; rfl
  have e4 : count_See_nil.f 300 r = some 0 := by
    have : ∃ a b, obj_See_nil.f 300 r = some (false, a, b) := by unfold obj_See_nil.f; rw [in_nil]; exact ⟨_, _, rfl⟩
    obtain ⟨a, b, h⟩ := this
    unfold count_See_nil.f; rw [h]; rfl
  have ho := opened_ok
  unfold opened at ho
  unfold quitrentlaw12_CountNobody.f
  cases h : quitrentlaw12_Opened.f 300 3 16 1 1 with
  | none => rw [h] at ho; cases ho
  | some s =>
    rw [h] at ho
    rcases s with s | s | s
    · cases ho
    · obtain ⟨ok, N, W, R, K, m, z1, z2, z3, z4, l, z5⟩ := s
      simp only [Bool.and_eq_true, beq_iff_eq] at ho
      obtain ⟨rfl, rfl⟩ := ho
      have u1 : ∀ m, count_Up.f l m 3 W R K r = some (0, false, m, l) := fun m => by unfold count_Up.f count_change.f; rw [is_out _ _ _ _ _ _ _ hr]; rfl
      have u2 : ∀ m, count_Down.f l m 3 W R K r = some (0, false, m, l) := fun m => by unfold count_Down.f count_change.f; rw [is_out _ _ _ _ _ _ _ hr]; rfl
      have u3 : ∀ m, count_Of.f l m 3 W R K r = some (0, m) := fun m => by unfold count_Of.f; rw [is_out _ _ _ _ _ _ _ hr]; rfl
      have u4 : ∀ m, count_See.f 300 l m 3 W R K r = some 0 := fun m => by
        have : ∃ a b, obj_See.f 300 l m 3 W R K r = some (false, a, b) := by unfold obj_See.f; rw [in_out _ _ _ _ _ _ _ hr]; exact ⟨_, _, rfl⟩
        obtain ⟨a, b, h⟩ := this
        unfold count_See.f; rw [h]; rfl
      simp [e1, e2, e3, e4, u1, u2, u3, u4, begun]
    · cases ho
end Go.Proofs.YtobeonkddamnoaaDoor.V
