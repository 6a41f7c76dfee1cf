/- The row wholeRows: for every argument the statement's function answers true, changes no argument, and does not panic. No condition. -/
import Derived.Test.YtobeonkddamnoaaDoorRows
import Derived.Test.YtobeonkddamnoaaDoorGWR
import Derived.Test.YtobeonkddamnoaaDoorVWRr
import Derived.WalkKit
import Derived.ProofKit
import Derived.OpenShut
import Derived.ShutString
import Derived.ChangeOld
import Derived.Below
import Derived.SizedLaws
import Derived.Carry
import Derived.Lib.SmallJoins
import Derived.Deep.Slices
import Derived.LaidMore
import Derived.Stop.Joined
import Derived.SevenTiedAt
import Derived.Test.YtobeonkddamnoaaDoorLw
import Derived.Test.YtobeonkddamnoaaDoorTie
import Derived.Test.YtobeonkddamnoaaDoorCards
namespace Go.Proofs.YtobeonkddamnoaaDoor.wholeRows
open Go.ChangeShapes Go.WideShapes Go.ChangeAt Go.RowKit Go.Joins Go.Proofs.YtobeonkddamnoaaDoor.Q
set_option linter.unusedVariables false
theorem own : ownKnob Tryd.prog.godebug = none := by kernel_rfl
theorem laidOut : laidOutB Tryd.prog = true := by kernel_rfl
def laidL : List (String × DataW Unit) := [("quitrent/tag.none", Rows.laid_quitrent_tag_none)]
theorem door_met (os : Os) (args : Array Value) : laidMetH Tryd.prog laidL ((World.doorLaid Tryd.prog 400 os).forCall (fun _ _ => 0) ⟨#[], args, []⟩).memory :=
  laidMetH_of_parts3 (fuel := 8) (laidMet_of_run' 8 (by kernel_rfl) (by kernel_rfl)) (by kernel_rfl) (by kernel_rfl)
theorem gn0 : Tryd.prog.globalNamed "quitrent/tag.none" = some 0 := by kernel_rfl
theorem gt0 : (Tryd.prog.globals[0]?).map (·.type) = some 108 := by kernel_rfl
theorem of_laid {W : World} (h : laidMetH Tryd.prog laidL W) : Gl 0 #[.int .i64 0, .int .i64 0, .int .i64 0, .int .i64 0, .int .i64 0] (fps []) W := by
  rw [MakeChecks.laidMetH_plain _ _ _ (by kernel_rfl)] at h
  obtain ⟨ps, ⟨g0, t0, cs0, f0, p0, q0, hg0, ht0, hv0, hd0, _, _⟩, _, _⟩ := h
  obtain rfl := Option.some.inj (gn0.symm.trans hg0)
  obtain rfl := Option.some.inj (gt0.symm.trans ht0)
  have e0 := laid_cells (fun z => .lit (.int .i64 z)) (Value.int .i64) [(0 : Int), (0 : Int), (0 : Int), (0 : Int), (0 : Int)] Tryd.underlying108 (by kernel_rfl) (by kernel_rfl) (laid_int Tryd.underlying3) hd0 rfl
  have a0 : cs0 = #[.int .i64 0, .int .i64 0, .int .i64 0, .int .i64 0, .int .i64 0] := by obtain ⟨l⟩ := cs0; exact congrArg Array.mk e0
  exact ⟨fun i v hi => by rw [World.var?_cell gn0 hv0 i, a0]; exact hi, fps_nil _, by decide⟩
def IsRow (k : IntKind) (w : World) (a : Option Addr) (len cap : Nat) (zs : List Int) : Prop :=
  (a = none ∧ len = 0 ∧ cap = 0 ∧ zs = []) ∨
  ∃ x, a = some x ∧ len ≤ cap ∧ cap ≤ maxLen ∧ zs.length = cap ∧ (∀ i, i < zs.length → w.cell? (x.add i) = some (.int k (zs.getD i 0))) ∧ ∀ n ∈ zs, (Lit.int k n).wf = true
section
open Go.Proofs.YtobeonkddamnoaaDoorW.PrintWords Go.Deep
variable {H : Type} {enc : TypeId × Value → H} {P : Program} {w : World} {base : Nat} {spare : Nat → Bool} {held : Bool}
theorem open_flat {α : Type} [Inhabited α] (K : Kd α) (wf : α → Prop) {t e fuel : Nat} {cs : List Value} {x : DataW H × List MemPlace} (ht : P.underlying t = some (.slice e)) (hc : P.cellsOf e = K.sz)
    (hE : ∀ m cs y, DataW.trod enc P w base spare held m e cs = some y → ∃ x, K.K w x cs ∧ wf x) (h : DataW.trod enc P w base spare held fuel t cs = some x) :
    ∃ A c xs, cs = [.slice A xs.length c] ∧ xs.length ≤ c ∧ K.C w A xs.length xs ∧ ∀ x ∈ xs, wf x := by
  rcases DataW.trod_slice ht h with ⟨rfl, _⟩ | ⟨a, len, cap, elems, rest, n, _, rfl, _, _, hl, hm, hel, hx, _, _⟩
  · exact ⟨none, 0, [], rfl, Nat.le_refl _, Kd.C_nil K w, by simp⟩
  · have each : ∀ i, i < len → ∃ q : α, (∃ c, c.length = K.sz ∧ K.K w q c ∧ ∀ j u, c[j]? = some u → w.cell? (a.add (i * K.sz + j)) = some u) ∧ wf q := by
      intro i hi
      have h1 := hx i hi
      rw [List.getElem?_eq_getElem (by omega), Option.bind_eq_some_iff] at h1
      obtain ⟨c, h2, h3⟩ := h1
      obtain ⟨_, hcl, hcc⟩ := World.cells?_some h2
      obtain ⟨q, hq, hw⟩ := hE _ _ _ h3
      refine ⟨q, ⟨c, hcl.trans hc, hq, fun j u hu => ?_⟩, hw⟩
      have hj : j < c.length := (List.getElem?_eq_some_iff.1 hu).1
      have h4 := hcc j (by omega)
      rw [Go.Deep.add_add, hc] at h4
      rw [h4, hu]
    obtain ⟨f, hf⟩ := choose_lt each
    refine ⟨some a, cap, (List.range len).map f, by simp, by simpa using hl, ⟨rfl, by simp only [maxLen] at hm; simp; omega, fun _ => ⟨a, rfl, fun j p hj => ?_⟩⟩, fun x hx' => ?_⟩
    · have hlt : j < len := by have := (List.getElem?_eq_some_iff.1 hj).1; simpa using this
      have hp : f j = p := by simpa [hlt] using hj
      subst hp
      exact (hf j hlt).1
    · obtain ⟨i, hi, rfl⟩ := List.mem_map.1 hx'
      exact (hf i (by simpa using hi)).2
set_option maxRecDepth 100000 in
theorem el63 {m : Nat} {cs : List Value} {y : DataW H × List MemPlace} (h : DataW.trod enc Tryd.prog w base spare held m 63 cs = some y) :
    ∃ (z0 : Int) (z1 : Int), cs = [.int .i64 z0, .int .i64 z1] ∧ (Lit.int .i64 z0).wf = true ∧ (Lit.int .i64 z1).wf = true := by
  obtain ⟨xs, n, _, _, hl, hxl, hf⟩ := DataW.trod_struct Tryd.underlying63 h
  replace hl : cs.length = 2 := hl.trans (by kernel_rfl)
  have k3 : Tryd.prog.cellsOf 3 = 1 := by kernel_rfl
  match cs, hl, xs, hxl with
  | [v0, v1], _, [y0, y1], _ =>
    have g0 : DataW.trod enc Tryd.prog w base spare held n 3 [v0] = some y0 := by have h_ := hf 0 _ rfl; simpa [k3] using h_
    obtain ⟨z0, e0, _, w0⟩ := DataW.trod_int Tryd.underlying3 g0
    simp only [List.cons.injEq, and_true] at e0
    subst e0
    have g1 : DataW.trod enc Tryd.prog w base spare held n 3 [v1] = some y1 := by have h_ := hf 1 _ rfl; simpa [k3] using h_
    obtain ⟨z1, e1, _, w1⟩ := DataW.trod_int Tryd.underlying3 g1
    simp only [List.cons.injEq, and_true] at e1
    subst e1
    exact ⟨z0, z1, rfl, w0, w1⟩
end
set_option maxRecDepth 100000 in
theorem lifted (os : Os) (started : os.Started) (H : Type) (enc : TypeId × Value → H) :
    ReturnsInHanded {} Tryd.checked os 13 .any (fun w args => (Rows.wholeRowsSpec.pre enc Tryd.prog Tryd.f13 [] false w args ∧ laidMetH Tryd.prog laidL w) ∧ sizedMet enc Tryd.prog Tryd.f13 (OpenSpec.ofChange Rows.wholeRowsSpec) false w args)
      (Rows.wholeRowsSpec.post enc Tryd.prog Tryd.f13 false true false false) := by
  refine returnsInHanded_of_change_and (C := Tryd.checked) (X := fun w _ => laidMetH Tryd.prog laidL w) (fun _ _ _ hh h => h.of_heap hh) own started (by kernel_rfl) Tryd.func13
    (ChangeSpec.witness_shaped (enc := enc) (C := Tryd.checked) (os := os) (X := fun w _ => laidMetH Tryd.prog laidL w) false (World.doorLaid Tryd.prog 400 os) #[.slice none 0 0, .slice none 0 0, .int .u32 0] 8 rfl (World.shaped_of_RefB (by kernel_rfl) (by kernel_rfl)) (by kernel_rfl) (by kernel_rfl) (by kernel_rfl) (door_met os _)) ?_
  intro W base args ds gs before hval0 hW _ hsz0 hL _
  have HL0 := of_laid hL
  have hval : ∀ (j : Nat) t v, Tryd.f13.params[j]? = some t → args[j]? = some v → Value.okWide Tryd.prog W .any base t v := hval0
  have hW' := hW
  obtain ⟨p, q, hA0, hV, rfl, hfz, hnd⟩ := hW
  have hA : DataW.TrodAll enc Tryd.prog W 0 (fun _ => true) true Tryd.f13.params.toList args.toList ds p := hA0
  rw [Tryd.params13] at hA hval
  obtain ⟨v0, vs0, d0, ds0, p0, q0, hargs, rfl, rfl, h0, r0⟩ := trodAll_cons hA
  obtain ⟨v1, vs1, d1, ds1, p1, q1, rfl, rfl, rfl, h1, r1⟩ := trodAll_cons r0
  obtain ⟨v2, vs2, d2, ds2, p2, q2, rfl, rfl, rfl, h2, r2⟩ := trodAll_cons r1
  obtain ⟨rfl, rfl, rfl⟩ := trodAll_nil r2
  obtain rfl : args = #[v0, v1, v2] := by cases args; simp_all
  obtain ⟨rfl, rfl⟩ := trodVars_none hV
  obtain ⟨A0, len0, cap0, rfl⟩ := okWide_slice Tryd.underlying78 (hval 0 78 v0 rfl rfl)
  have k0 := h0
  have lt0 : ∀ x ∈ p0, x.block < W.heap.size := by obtain ⟨m, hm⟩ := k0; exact DataW.trod_lt m _ _ _ hm
  obtain ⟨fu0, hf0⟩ := h0
  obtain ⟨B0, cc0, l0, ef0, _, hC0, hwf0⟩ := open_flat (Go.Proofs.YtobeonkddamnoaaDoorW.PrintWords.Kd.pair (Go.Proofs.YtobeonkddamnoaaDoorW.PrintWords.Kd.int .i64) (Go.Proofs.YtobeonkddamnoaaDoorW.PrintWords.Kd.int .i64)) (fun x : Int × Int => (Lit.int .i64 x.1).wf = true ∧ (Lit.int .i64 x.2).wf = true) Tryd.underlying78 (by kernel_rfl) (fun m cs y h => by
    obtain ⟨z0_, z1_, rfl, w0_, w1_⟩ := el63 h
    exact ⟨(z0_, z1_), ⟨_, _, rfl, rfl, rfl⟩, w0_, w1_⟩) hf0
  simp only [Value.cells, List.cons.injEq, Value.slice.injEq, and_true] at ef0
  obtain ⟨rfl, rfl, rfl⟩ := ef0
  have mx0 := Go.Proofs.YtobeonkddamnoaaDoorW.PrintWords.Kd.C_max hC0
  obtain ⟨A1, len1, cap1, rfl⟩ := okWide_slice Tryd.underlying23 (hval 1 23 v1 rfl rfl)
  have k1 := h1
  have lt1 : ∀ x ∈ p1, x.block < W.heap.size := by obtain ⟨m, hm⟩ := k1; exact DataW.trod_lt m _ _ _ hm
  obtain ⟨fu1, hf1⟩ := h1
  obtain ⟨B1, cc1, l1, ef1, _, hC1, hwf1⟩ := open_flat (Go.Proofs.YtobeonkddamnoaaDoorW.PrintWords.Kd.int .u8) (fun x => (Lit.int .u8 x).wf = true) Tryd.underlying23 (by kernel_rfl) (fun m cs y h => by obtain ⟨z, e, _, w⟩ := DataW.trod_int Tryd.underlying5 h; exact ⟨z, e, w⟩) hf1
  simp only [Value.cells, List.cons.injEq, Value.slice.injEq, and_true] at ef1
  obtain ⟨rfl, rfl, rfl⟩ := ef1
  have mx1 := Go.Proofs.YtobeonkddamnoaaDoorW.PrintWords.Kd.C_max hC1
  obtain ⟨a2, rfl, rfl, rfl, w2⟩ := open_int Tryd.underlying33 (hval 2 33 v2 rfl rfl) h2
  clear hA0 hval0 hsz0
  obtain ⟨k, h⟩ := V.WholeRows l0 l1 a2 mx0 hwf0 mx1 hwf1 w2
  refine (C.quitrenttop_WholeRows.calls k l0 l1 a2 A0 cap0 A1 cap1 true W ⟨Rd.of_C hC0⟩ ⟨Rd.of_C hC1⟩ ⟨HL0⟩ ⟨Sep.start W⟩ ⟨h⟩).mono fun e W' ⟨he, hS⟩ => ?_
  subst he
  have bel := hS.fr.below
  exact ⟨_, rfl, _, _, _, [], _, [], hW', trodAll_mk1 (shut_bool Tryd.underlying4 _), (trodAll_cons_mk (Below.trod laidOut (by kernel_rfl) (of_decide_eq_true (by kernel_rfl)) k0 bel lt0) (trodAll_cons_mk (Below.trod laidOut (by kernel_rfl) (of_decide_eq_true (by kernel_rfl)) k1 bel lt1) (trodAll_cons_mk (shut_int Tryd.underlying33 w2) trodAll_mk0))), rfl, bel.frame _, fun h => by cases h⟩
theorem over : Rows.wholeRowsRow.holds Tryd.pinned (OpenSpec.ofChange Rows.wholeRowsSpec) :=
  OpenClaim.holds_of_wide 13 Tryd.f13 rfl rfl rfl rfl rfl rfl rfl ⟨rfl, rfl, rfl, rfl, rfl⟩ rfl rfl rfl rfl rfl (by kernel_rfl) Tryd.func13 (by kernel_rfl)
    (of_decide_eq_true (by kernel_rfl)) (by unfold Func.isWrapper; first | (rw [if_pos (by decide +kernel)]; kernel_rfl) | (rw [if_neg (by decide +kernel)]; exact ⟨rfl, rfl⟩))
    (fun os started H enc _ => lifted os started H enc)
theorem proved : Rows.WholeRowsCardSaid :=
  Claim7.holds_tied_plain_at .later [] [.data] true (true, "684f224fa72f0a72efd7c0f03d6ca8127d2672fdbe69faf73492e01140e315be") false
    over (fun _ h => by cases h) (by kernel_rfl) (fun _ h => by cases h) wholeRows_row_tie rfl ⟨rfl, rfl⟩ (by kernel_rfl) rfl
    (fun f fn hf hfn => by
      obtain rfl : f = 13 := Option.some.inj ((show Tryd.prog.funcNamed "quitrent/quitrenttop.WholeRows" = some 13 by kernel_rfl).symm.trans hf) |>.symm
      obtain rfl : fn = Tryd.f13 := (Option.some.inj (Tryd.func13.symm.trans hfn)).symm
      exact ⟨by kernel_rfl, fun j t ht => by
        rw [Tryd.params13] at ht
        have hm : t ∈ [78, 23, 33] := by simpa using Array.mem_of_getElem? ht
        have hall : ([78, 23, 33].all fun u => !Tryd.prog.wantsStandIn u) = true := by kernel_rfl
        exact (show Tryd.prog.wantsStandIn t = false by simpa using List.all_eq_true.1 hall t hm)⟩)
    (by kernel_rfl)
#print axioms proved
end Go.Proofs.YtobeonkddamnoaaDoor.wholeRows
