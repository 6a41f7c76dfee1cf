/- The row poolKeeps: for every argument the statement's function answers true, changes no argument, and does not panic. No condition. -/
import Derived.Test.YtobeonkddamnoaaRows
import Derived.Test.YtobeonkddamnoaaGPk
import Derived.Test.YtobeonkddamnoaaVPk
import Derived.WalkKit
import Derived.ProofKit
import Derived.OpenShut
import Derived.ShutString
import Derived.ChangeOld
import Derived.Below
import Derived.SizedLaws
import Derived.Carry
import Derived.Lib.SmallJoins
import Derived.Deep.Slices
namespace Go.Proofs.Ytobeonkddamnoaa.poolKeeps
open Go.ChangeShapes Go.WideShapes Go.ChangeAt Go.RowKit Go.Joins Go.Proofs.Ytobeonkddamnoaa.Q
set_option linter.unusedVariables false
theorem own : ownKnob Try.prog.godebug = none := by kernel_rfl
theorem laidOut : laidOutB Try.prog = true := by kernel_rfl
def IsRow (k : IntKind) (w : World) (a : Option Addr) (len cap : Nat) (zs : List Int) : Prop :=
  (a = none ∧ len = 0 ∧ cap = 0 ∧ zs = []) ∨
  ∃ x, a = some x ∧ len ≤ cap ∧ cap ≤ maxLen ∧ zs.length = cap ∧ (∀ i, i < zs.length → w.cell? (x.add i) = some (.int k (zs.getD i 0))) ∧ ∀ n ∈ zs, (Lit.int k n).wf = true
section
open Go.Proofs.YtobeonkddamnoaaW.PrintWords Go.Deep
variable {H : Type} {enc : TypeId × Value → H} {P : Program} {w : World} {base : Nat} {spare : Nat → Bool} {held : Bool}
theorem open_flat {α : Type} [Inhabited α] (K : Kd α) (wf : α → Prop) {t e fuel : Nat} {cs : List Value} {x : DataW H × List MemPlace} (ht : P.underlying t = some (.slice e)) (hc : P.cellsOf e = K.sz)
    (hE : ∀ m cs y, DataW.trod enc P w base spare held m e cs = some y → ∃ x, K.K w x cs ∧ wf x) (h : DataW.trod enc P w base spare held fuel t cs = some x) :
    ∃ A c xs, cs = [.slice A xs.length c] ∧ xs.length ≤ c ∧ K.C w A xs.length xs ∧ ∀ x ∈ xs, wf x := by
  rcases DataW.trod_slice ht h with ⟨rfl, _⟩ | ⟨a, len, cap, elems, rest, n, _, rfl, _, _, hl, hm, hel, hx, _, _⟩
  · exact ⟨none, 0, [], rfl, Nat.le_refl _, Kd.C_nil K w, by simp⟩
  · have each : ∀ i, i < len → ∃ q : α, (∃ c, c.length = K.sz ∧ K.K w q c ∧ ∀ j u, c[j]? = some u → w.cell? (a.add (i * K.sz + j)) = some u) ∧ wf q := by
      intro i hi
      have h1 := hx i hi
      rw [List.getElem?_eq_getElem (by omega), Option.bind_eq_some_iff] at h1
      obtain ⟨c, h2, h3⟩ := h1
      obtain ⟨_, hcl, hcc⟩ := World.cells?_some h2
      obtain ⟨q, hq, hw⟩ := hE _ _ _ h3
      refine ⟨q, ⟨c, hcl.trans hc, hq, fun j u hu => ?_⟩, hw⟩
      have hj : j < c.length := (List.getElem?_eq_some_iff.1 hu).1
      have h4 := hcc j (by omega)
      rw [Go.Deep.add_add, hc] at h4
      rw [h4, hu]
    obtain ⟨f, hf⟩ := choose_lt each
    refine ⟨some a, cap, (List.range len).map f, by simp, by simpa using hl, ⟨rfl, by simp only [maxLen] at hm; simp; omega, fun _ => ⟨a, rfl, fun j p hj => ?_⟩⟩, fun x hx' => ?_⟩
    · have hlt : j < len := by have := (List.getElem?_eq_some_iff.1 hj).1; simpa using this
      have hp : f j = p := by simpa [hlt] using hj
      subst hp
      exact (hf j hlt).1
    · obtain ⟨i, hi, rfl⟩ := List.mem_map.1 hx'
      exact (hf i (by simpa using hi)).2
end
set_option maxRecDepth 100000 in
theorem lifted (os : Os) (started : os.Started) (H : Type) (enc : TypeId × Value → H) :
    ReturnsInHanded {} Try.checked os 14 .any (Rows.poolKeepsSpec.pre6 enc Try.prog Try.f14 Rows.poolKeepsRow.domain false) (Rows.poolKeepsSpec.post enc Try.prog Try.f14 false true false false) := by
  refine returnsInHanded_of_change_sized (C := Try.checked) own started (by kernel_rfl) Try.func14
    (ChangeSpec.witness6 (enc := enc) (C := Try.checked) false ⟨#[], #[.int .u8 0, .slice none 0 0], []⟩ 8 (by kernel_rfl) (by kernel_rfl) (by kernel_rfl) (by kernel_rfl)) ?_
  intro W base args ds gs before hval0 hW hcnd hsz0 _
  have hsz : (DataW.weightsEach Try.prog (Try.f14.params.toList ++ Rows.poolKeepsSpec.plain.varTypes Try.prog) (ds ++ gs)).all (· ≤ reachBytes) = true := hsz0
  have hval : ∀ (j : Nat) t v, Try.f14.params[j]? = some t → args[j]? = some v → Value.okWide Try.prog W .any base t v := hval0
  have hW' := hW
  obtain ⟨p, q, hA0, hV, rfl, hfz, hnd⟩ := hW
  have hA : DataW.TrodAll enc Try.prog W 0 (fun _ => true) true Try.f14.params.toList args.toList ds p := hA0
  rw [Try.params14] at hA hval hsz
  obtain ⟨v0, vs0, d0, ds0, p0, q0, hargs, rfl, rfl, h0, r0⟩ := trodAll_cons hA
  obtain ⟨v1, vs1, d1, ds1, p1, q1, rfl, rfl, rfl, h1, r1⟩ := trodAll_cons r0
  obtain ⟨rfl, rfl, rfl⟩ := trodAll_nil r1
  obtain rfl : args = #[v0, v1] := by cases args; simp_all
  obtain ⟨rfl, rfl⟩ := trodVars_none hV
  obtain ⟨a0, rfl, rfl, rfl, w0⟩ := open_int Try.underlying5 (hval 0 5 v0 rfl rfl) h0
  obtain ⟨A1, len1, cap1, rfl⟩ := okWide_slice Try.underlying90 (hval 1 90 v1 rfl rfl)
  have k1 := h1
  have lt1 : ∀ x ∈ p1, x.block < W.heap.size := by obtain ⟨m, hm⟩ := k1; exact DataW.trod_lt m _ _ _ hm
  obtain ⟨fu1, hf1⟩ := h1
  obtain ⟨B1, cc1, l1, ef1, _, hC1, hwf1⟩ := open_flat (Go.Proofs.YtobeonkddamnoaaW.PrintWords.Kd.int .u8) (fun x => (Lit.int .u8 x).wf = true) Try.underlying90 (by kernel_rfl) (fun m cs y h => by obtain ⟨z, e, _, w⟩ := DataW.trod_int Try.underlying5 h; exact ⟨z, e, w⟩) hf1
  simp only [Value.cells, List.cons.injEq, Value.slice.injEq, and_true] at ef1
  obtain ⟨rfl, rfl, rfl⟩ := ef1
  have mx1 := Go.Proofs.YtobeonkddamnoaaW.PrintWords.Kd.C_max hC1
  clear hA0 hval0 hsz0 hsz
  obtain ⟨k, h⟩ := V.PoolKeeps a0 l1 w0 mx1 hwf1
  refine (C.quitrentlaw10_PoolKeeps.calls k a0 l1 A1 cap1 true W ⟨Rd.of_C hC1⟩ ⟨Sep.start W⟩ ⟨h⟩).mono fun e W' ⟨he, hS⟩ => ?_
  subst he
  have bel := hS.fr.below
  exact ⟨_, rfl, _, _, _, [], _, [], hW', trodAll_mk1 (shut_bool Try.underlying4 _), (trodAll_cons_mk (shut_int Try.underlying5 w0) (trodAll_cons_mk (Below.trod laidOut (by kernel_rfl) (of_decide_eq_true (by kernel_rfl)) k1 bel lt1) trodAll_mk0)), rfl, bel.frame _, fun h => by cases h⟩
theorem over : Rows.poolKeepsRow.holds Try.pinned (OpenSpec.ofChange Rows.poolKeepsSpec) :=
  OpenClaim.holds_of_wide 14 Try.f14 rfl rfl rfl rfl rfl rfl rfl ⟨rfl, rfl, rfl, rfl, rfl⟩ rfl rfl rfl rfl rfl (by kernel_rfl) Try.func14 (by kernel_rfl)
    (of_decide_eq_true (by kernel_rfl)) (by unfold Func.isWrapper; first | (rw [if_pos (by decide +kernel)]; kernel_rfl) | (rw [if_neg (by decide +kernel)]; exact ⟨rfl, rfl⟩))
    (fun os started H enc _ => lifted os started H enc)
theorem proved : Rows.PoolKeepsSaid := over
#print axioms proved
end Go.Proofs.Ytobeonkddamnoaa.poolKeeps
