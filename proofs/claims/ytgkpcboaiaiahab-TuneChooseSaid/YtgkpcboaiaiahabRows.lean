/-
  No cell of these rows narrows 'for every input' (looked for: loops, veiled, ifaces, maps, wideKeys, modest, calm, conditions, laid).
  DERIVED. THE GIVEN ROWS OF THIS SEAT. 7 by the template 'for every input the law returns true; each argument reads behind the call as it read before'; 0 by the template 'total and deterministic' (their statements: YtgkpcboaiaiahabTotals.lean).
  GIVEN WITH THE SEED: the statements are not yours to turn. If you find one false, say at which input.
  Laid BY PROGRAM, IN A SANDBOX (cutbox-rows.mjs): the forced cells as the released guide's own fill.sh prints them over the translation 94344d66093cd218… (all of the seat's roots in one cut). By AI agents, Wed Nov 11 2026. No macro, syntax, notation, axiom, sorry.
-/
import Derived.Test.YtgkpcboaiaiahabChecked
import GoSem.Claim
import GoSem.ClaimJoined
import GoSem.ClaimMapViews
import Derived.JoinedTies
import Derived.KernelRfl
namespace Go.Proofs.Ytgkpcboaiaiahab
/- THE CELL 'sum', in the pinned program and in every row, IS THE sha256 OF THE DUMP (.gsa) THAT YtgkpcboaiaiahabProg.lean LOADS. Nothing in Lean hashes anything: it is a label: what it is worth is what the hold of that sum in a sandbox is worth. -/
noncomputable def Try.pinned : Pinned := { name := "ytgkpcboaiaiahab", sum := "94344d66093cd218d5dd84a521e71a4c7a833616a2dbb17085d90b8f5b92d013", checked := Try.checked }
namespace Rows
def none {H : Type} : Left H := { results := [], args := [] }

/-- 'quitrentlaw07.ShapeFull': WHATEVER THE INPUT: true; the input reads as it did. -/
def shapeFullSpec : ChangeSpec := { name := "shapeFull", fn := fun _ => fun
  | [d1, d2, d3, d4] => { results := [.lit (.bool true)], args := [d1, d2, d3, d4] }
  | _ => none }
def shapeFullRow : OpenClaim := { program := "ytgkpcboaiaiahab", sum := "94344d66093cd218d5dd84a521e71a4c7a833616a2dbb17085d90b8f5b92d013", func := "quitrent/quitrentlaw07.ShapeFull", spec := "shapeFull", apart := false }
def ShapeFullSaid : Prop := shapeFullRow.holds Try.pinned (OpenSpec.ofChange shapeFullSpec)

/-- ITS FALSE NEIGHBOUR: 'it returns false'. Refute it at one input. -/
def shapeFullWrong : ChangeSpec := { name := "shapeFull", fn := fun _ => fun
  | [d1, d2, d3, d4] => { results := [.lit (.bool false)], args := [d1, d2, d3, d4] }
  | _ => none }
def ShapeFullWrongFalsely : Prop := shapeFullRow.holds Try.pinned (OpenSpec.ofChange shapeFullWrong)

/-- 'quitrentlaw07.ShapeAll': WHATEVER THE INPUT: true; the input reads as it did. -/
def shapeAllSpec : ChangeSpec := { name := "shapeAll", fn := fun _ => fun
  | [d1, d2] => { results := [.lit (.bool true)], args := [d1, d2] }
  | _ => none }
def shapeAllRow : OpenClaim := { program := "ytgkpcboaiaiahab", sum := "94344d66093cd218d5dd84a521e71a4c7a833616a2dbb17085d90b8f5b92d013", func := "quitrent/quitrentlaw07.ShapeAll", spec := "shapeAll", apart := false }
def ShapeAllSaid : Prop := shapeAllRow.holds Try.pinned (OpenSpec.ofChange shapeAllSpec)

/-- ITS FALSE NEIGHBOUR: 'it returns false'. Refute it at one input. -/
def shapeAllWrong : ChangeSpec := { name := "shapeAll", fn := fun _ => fun
  | [d1, d2] => { results := [.lit (.bool false)], args := [d1, d2] }
  | _ => none }
def ShapeAllWrongFalsely : Prop := shapeAllRow.holds Try.pinned (OpenSpec.ofChange shapeAllWrong)

/-- 'quitrentlaw03.PlanPause': WHATEVER THE INPUT: true; the input reads as it did. -/
def planPauseSpec : ChangeSpec := { name := "planPause", fn := fun _ => fun
  | [d1, d2, d3] => { results := [.lit (.bool true)], args := [d1, d2, d3] }
  | _ => none }
def planPauseRow : OpenClaim := { program := "ytgkpcboaiaiahab", sum := "94344d66093cd218d5dd84a521e71a4c7a833616a2dbb17085d90b8f5b92d013", func := "quitrent/quitrentlaw03.PlanPause", spec := "planPause", unfollowed := true, recurses := true, apart := false }
def PlanPauseSaid : Prop := planPauseRow.holds Try.pinned (OpenSpec.ofChange planPauseSpec)

/-- ITS FALSE NEIGHBOUR: 'it returns false'. Refute it at one input. -/
def planPauseWrong : ChangeSpec := { name := "planPause", fn := fun _ => fun
  | [d1, d2, d3] => { results := [.lit (.bool false)], args := [d1, d2, d3] }
  | _ => none }
def PlanPauseWrongFalsely : Prop := planPauseRow.holds Try.pinned (OpenSpec.ofChange planPauseWrong)

/-- 'quitrentlaw03.PlanMore': WHATEVER THE INPUT: true; the input reads as it did. -/
def planMoreSpec : ChangeSpec := { name := "planMore", fn := fun _ => fun
  | [d1, d2, d3, d4] => { results := [.lit (.bool true)], args := [d1, d2, d3, d4] }
  | _ => none }
def planMoreRow : OpenClaim := { program := "ytgkpcboaiaiahab", sum := "94344d66093cd218d5dd84a521e71a4c7a833616a2dbb17085d90b8f5b92d013", func := "quitrent/quitrentlaw03.PlanMore", spec := "planMore", unfollowed := true, recurses := true, apart := false }
def PlanMoreSaid : Prop := planMoreRow.holds Try.pinned (OpenSpec.ofChange planMoreSpec)

/-- ITS FALSE NEIGHBOUR: 'it returns false'. Refute it at one input. -/
def planMoreWrong : ChangeSpec := { name := "planMore", fn := fun _ => fun
  | [d1, d2, d3, d4] => { results := [.lit (.bool false)], args := [d1, d2, d3, d4] }
  | _ => none }
def PlanMoreWrongFalsely : Prop := planMoreRow.holds Try.pinned (OpenSpec.ofChange planMoreWrong)

/-- 'quitrentlaw07.ShapePlaces': WHATEVER THE INPUT: true; the input reads as it did. -/
def shapePlacesSpec : ChangeSpec := { name := "shapePlaces", fn := fun _ => fun
  | [d1, d2, d3, d4, d5] => { results := [.lit (.bool true)], args := [d1, d2, d3, d4, d5] }
  | _ => none }
def shapePlacesRow : OpenClaim := { program := "ytgkpcboaiaiahab", sum := "94344d66093cd218d5dd84a521e71a4c7a833616a2dbb17085d90b8f5b92d013", func := "quitrent/quitrentlaw07.ShapePlaces", spec := "shapePlaces", apart := false }
def ShapePlacesSaid : Prop := shapePlacesRow.holds Try.pinned (OpenSpec.ofChange shapePlacesSpec)

/-- ITS FALSE NEIGHBOUR: 'it returns false'. Refute it at one input. -/
def shapePlacesWrong : ChangeSpec := { name := "shapePlaces", fn := fun _ => fun
  | [d1, d2, d3, d4, d5] => { results := [.lit (.bool false)], args := [d1, d2, d3, d4, d5] }
  | _ => none }
def ShapePlacesWrongFalsely : Prop := shapePlacesRow.holds Try.pinned (OpenSpec.ofChange shapePlacesWrong)

/-- 'quitrentlaw07.ShapeApart': WHATEVER THE INPUT: true; the input reads as it did. -/
def shapeApartSpec : ChangeSpec := { name := "shapeApart", fn := fun _ => fun
  | [d1, d2, d3, d4] => { results := [.lit (.bool true)], args := [d1, d2, d3, d4] }
  | _ => none }
def shapeApartRow : OpenClaim := { program := "ytgkpcboaiaiahab", sum := "94344d66093cd218d5dd84a521e71a4c7a833616a2dbb17085d90b8f5b92d013", func := "quitrent/quitrentlaw07.ShapeApart", spec := "shapeApart", apart := false }
def ShapeApartSaid : Prop := shapeApartRow.holds Try.pinned (OpenSpec.ofChange shapeApartSpec)

/-- ITS FALSE NEIGHBOUR: 'it returns false'. Refute it at one input. -/
def shapeApartWrong : ChangeSpec := { name := "shapeApart", fn := fun _ => fun
  | [d1, d2, d3, d4] => { results := [.lit (.bool false)], args := [d1, d2, d3, d4] }
  | _ => none }
def ShapeApartWrongFalsely : Prop := shapeApartRow.holds Try.pinned (OpenSpec.ofChange shapeApartWrong)

/-- 'quitrentlaw31.TuneChoose': WHATEVER THE INPUT: true; the input reads as it did. -/
def tuneChooseSpec : ChangeSpec := { name := "tuneChoose", fn := fun _ => fun
  | [d1, d2, d3, d4] => { results := [.lit (.bool true)], args := [d1, d2, d3, d4] }
  | _ => none }
def tuneChooseRow : OpenClaim := { program := "ytgkpcboaiaiahab", sum := "94344d66093cd218d5dd84a521e71a4c7a833616a2dbb17085d90b8f5b92d013", func := "quitrent/quitrentlaw31.TuneChoose", spec := "tuneChoose", unfollowed := true, recurses := true, apart := false }
def TuneChooseSaid : Prop := tuneChooseRow.holds Try.pinned (OpenSpec.ofChange tuneChooseSpec)

/-- ITS FALSE NEIGHBOUR: 'it returns false'. Refute it at one input. -/
def tuneChooseWrong : ChangeSpec := { name := "tuneChoose", fn := fun _ => fun
  | [d1, d2, d3, d4] => { results := [.lit (.bool false)], args := [d1, d2, d3, d4] }
  | _ => none }
def TuneChooseWrongFalsely : Prop := tuneChooseRow.holds Try.pinned (OpenSpec.ofChange tuneChooseWrong)

/- THE SECOND FORM. 'bulk': how many values and letters a reading holds, each counted each time it is reached (what is shared counts as often as it is met; a slice's spare places count too). A statement '..UptoSaid' is the law's where the arguments, and the package variables that the reading takes, are together of bulk at most 1048576: NARROWER than '..Said'. Prove '..Said' where nothing that the law and all that it calls make is longer than what came in: it says more and counts as full. Else prove '..UptoSaid'. A law counts once. -/
mutual
def uptoBulk {H : Type} : DataW H → Nat
  | .lit (.string bytes) => bytes.length + 1
  | .lit _ => 1
  | .nil => 1
  | .ptr d => uptoBulk d + 1
  | .slice elems spare => uptoBulkAll elems + uptoBulkAll spare + 1
  | .agg parts => uptoBulkAll parts + 1
  | .iface _ d => uptoBulk d + 1
  | .map entries => uptoBulkEntries entries + 1
  | .held _ => 1
def uptoBulkAll {H : Type} : List (DataW H) → Nat
  | [] => 0
  | d :: r => uptoBulk d + uptoBulkAll r
def uptoBulkEntries {H : Type} : List (Lit × DataW H) → Nat
  | [] => 0
  | x :: r => uptoBulkEntry x + uptoBulkEntries r
def uptoBulkEntry {H : Type} : Lit × DataW H → Nat
  | (.string bytes, d) => bytes.length + uptoBulk d + 1
  | (_, d) => uptoBulk d + 1
 end
def uptoSmall : (H : Type) → List (DataW H) → Bool := fun _ ds => decide (uptoBulkAll ds ≤ 1048576)
def OpenSpec.upto (s : _root_.Go.ChangeSpec) : _root_.Go.OpenSpec := { _root_.Go.OpenSpec.ofChange s with cond := some uptoSmall }

/-- 'quitrentlaw07.ShapeFull', WHERE WHAT IT READS IS OF BULK AT MOST 1048576: true; the input reads as it did. -/
def shapeFullUptoRow : OpenClaim := { program := "ytgkpcboaiaiahab", sum := "94344d66093cd218d5dd84a521e71a4c7a833616a2dbb17085d90b8f5b92d013", func := "quitrent/quitrentlaw07.ShapeFull", spec := "shapeFull", apart := false, narrowed := true }
def ShapeFullUptoSaid : Prop := shapeFullUptoRow.holds Try.pinned (OpenSpec.upto shapeFullSpec)

/-- 'quitrentlaw07.ShapeAll', WHERE WHAT IT READS IS OF BULK AT MOST 1048576: true; the input reads as it did. -/
def shapeAllUptoRow : OpenClaim := { program := "ytgkpcboaiaiahab", sum := "94344d66093cd218d5dd84a521e71a4c7a833616a2dbb17085d90b8f5b92d013", func := "quitrent/quitrentlaw07.ShapeAll", spec := "shapeAll", apart := false, narrowed := true }
def ShapeAllUptoSaid : Prop := shapeAllUptoRow.holds Try.pinned (OpenSpec.upto shapeAllSpec)

/-- 'quitrentlaw03.PlanPause', WHERE WHAT IT READS IS OF BULK AT MOST 1048576: true; the input reads as it did. -/
def planPauseUptoRow : OpenClaim := { program := "ytgkpcboaiaiahab", sum := "94344d66093cd218d5dd84a521e71a4c7a833616a2dbb17085d90b8f5b92d013", func := "quitrent/quitrentlaw03.PlanPause", spec := "planPause", unfollowed := true, recurses := true, apart := false, narrowed := true }
def PlanPauseUptoSaid : Prop := planPauseUptoRow.holds Try.pinned (OpenSpec.upto planPauseSpec)

/-- 'quitrentlaw03.PlanMore', WHERE WHAT IT READS IS OF BULK AT MOST 1048576: true; the input reads as it did. -/
def planMoreUptoRow : OpenClaim := { program := "ytgkpcboaiaiahab", sum := "94344d66093cd218d5dd84a521e71a4c7a833616a2dbb17085d90b8f5b92d013", func := "quitrent/quitrentlaw03.PlanMore", spec := "planMore", unfollowed := true, recurses := true, apart := false, narrowed := true }
def PlanMoreUptoSaid : Prop := planMoreUptoRow.holds Try.pinned (OpenSpec.upto planMoreSpec)

/-- 'quitrentlaw07.ShapePlaces', WHERE WHAT IT READS IS OF BULK AT MOST 1048576: true; the input reads as it did. -/
def shapePlacesUptoRow : OpenClaim := { program := "ytgkpcboaiaiahab", sum := "94344d66093cd218d5dd84a521e71a4c7a833616a2dbb17085d90b8f5b92d013", func := "quitrent/quitrentlaw07.ShapePlaces", spec := "shapePlaces", apart := false, narrowed := true }
def ShapePlacesUptoSaid : Prop := shapePlacesUptoRow.holds Try.pinned (OpenSpec.upto shapePlacesSpec)

/-- 'quitrentlaw07.ShapeApart', WHERE WHAT IT READS IS OF BULK AT MOST 1048576: true; the input reads as it did. -/
def shapeApartUptoRow : OpenClaim := { program := "ytgkpcboaiaiahab", sum := "94344d66093cd218d5dd84a521e71a4c7a833616a2dbb17085d90b8f5b92d013", func := "quitrent/quitrentlaw07.ShapeApart", spec := "shapeApart", apart := false, narrowed := true }
def ShapeApartUptoSaid : Prop := shapeApartUptoRow.holds Try.pinned (OpenSpec.upto shapeApartSpec)

/-- 'quitrentlaw31.TuneChoose', WHERE WHAT IT READS IS OF BULK AT MOST 1048576: true; the input reads as it did. -/
def tuneChooseUptoRow : OpenClaim := { program := "ytgkpcboaiaiahab", sum := "94344d66093cd218d5dd84a521e71a4c7a833616a2dbb17085d90b8f5b92d013", func := "quitrent/quitrentlaw31.TuneChoose", spec := "tuneChoose", unfollowed := true, recurses := true, apart := false, narrowed := true }
def TuneChooseUptoSaid : Prop := tuneChooseUptoRow.holds Try.pinned (OpenSpec.upto tuneChooseSpec)

end Rows
end Go.Proofs.Ytgkpcboaiaiahab
