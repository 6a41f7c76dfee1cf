/-
  No cell of these rows narrows 'for every input' (looked for: loops, veiled, ifaces, maps, wideKeys, modest, calm, conditions, laid).
  DERIVED. THE GIVEN ROWS OF THIS SEAT. 13 by the template 'for every input the law returns true; each argument reads behind the call as it read before'; 0 by the template 'total and deterministic' (their statements: YtgkpcboaiaiahaaTotals.lean).
  GIVEN WITH THE SEED: the statements are not yours to turn. If you find one false, say at which input.
  Laid BY PROGRAM, IN A SANDBOX (cutbox-rows.mjs): the forced cells as the released guide's own fill.sh prints them over the translation e1ddcf94f821127e… (all of the seat's roots in one cut). By AI agents, Wed Nov 11 2026. No macro, syntax, notation, axiom, sorry.
-/
import Derived.Test.YtgkpcboaiaiahaaChecked
import GoSem.Claim
import GoSem.ClaimJoined
import GoSem.ClaimMapViews
import Derived.JoinedTies
import Derived.KernelRfl
namespace Go.Proofs.Ytgkpcboaiaiahaa
/- THE CELL 'sum', in the pinned program and in every row, IS THE sha256 OF THE DUMP (.gsa) THAT YtgkpcboaiaiahaaProg.lean LOADS. Nothing in Lean hashes anything: it is a label: what it is worth is what the hold of that sum in a sandbox is worth. -/
noncomputable def Try.pinned : Pinned := { name := "ytgkpcboaiaiahaa", sum := "e1ddcf94f821127e9e3907efa0811e0227b777f24a4b2fc8bc19e13dd2823c06", checked := Try.checked }
namespace Rows
def none {H : Type} : Left H := { results := [], args := [] }

/-- 'quitrentlaw02.RatioSums': WHATEVER THE INPUT: true; the input reads as it did. -/
def ratioSumsSpec : ChangeSpec := { name := "ratioSums", fn := fun _ => fun
  | [d1, d2, d3] => { results := [.lit (.bool true)], args := [d1, d2, d3] }
  | _ => none }
def ratioSumsRow : OpenClaim := { program := "ytgkpcboaiaiahaa", sum := "e1ddcf94f821127e9e3907efa0811e0227b777f24a4b2fc8bc19e13dd2823c06", func := "quitrent/quitrentlaw02.RatioSums", spec := "ratioSums", unfollowed := true, recurses := true, apart := false }
def RatioSumsSaid : Prop := ratioSumsRow.holds Try.pinned (OpenSpec.ofChange ratioSumsSpec)

/-- ITS FALSE NEIGHBOUR: 'it returns false'. Refute it at one input. -/
def ratioSumsWrong : ChangeSpec := { name := "ratioSums", fn := fun _ => fun
  | [d1, d2, d3] => { results := [.lit (.bool false)], args := [d1, d2, d3] }
  | _ => none }
def RatioSumsWrongFalsely : Prop := ratioSumsRow.holds Try.pinned (OpenSpec.ofChange ratioSumsWrong)

/-- 'quitrentlaw02.RatioShares': WHATEVER THE INPUT: true; the input reads as it did. -/
def ratioSharesSpec : ChangeSpec := { name := "ratioShares", fn := fun _ => fun
  | [d1, d2] => { results := [.lit (.bool true)], args := [d1, d2] }
  | _ => none }
def ratioSharesRow : OpenClaim := { program := "ytgkpcboaiaiahaa", sum := "e1ddcf94f821127e9e3907efa0811e0227b777f24a4b2fc8bc19e13dd2823c06", func := "quitrent/quitrentlaw02.RatioShares", spec := "ratioShares", unfollowed := true, recurses := true, apart := false }
def RatioSharesSaid : Prop := ratioSharesRow.holds Try.pinned (OpenSpec.ofChange ratioSharesSpec)

/-- ITS FALSE NEIGHBOUR: 'it returns false'. Refute it at one input. -/
def ratioSharesWrong : ChangeSpec := { name := "ratioShares", fn := fun _ => fun
  | [d1, d2] => { results := [.lit (.bool false)], args := [d1, d2] }
  | _ => none }
def RatioSharesWrongFalsely : Prop := ratioSharesRow.holds Try.pinned (OpenSpec.ofChange ratioSharesWrong)

/-- 'quitrentlaw02.RatioLeast': WHATEVER THE INPUT: true; the input reads as it did. -/
def ratioLeastSpec : ChangeSpec := { name := "ratioLeast", fn := fun _ => fun
  | [d1, d2] => { results := [.lit (.bool true)], args := [d1, d2] }
  | _ => none }
def ratioLeastRow : OpenClaim := { program := "ytgkpcboaiaiahaa", sum := "e1ddcf94f821127e9e3907efa0811e0227b777f24a4b2fc8bc19e13dd2823c06", func := "quitrent/quitrentlaw02.RatioLeast", spec := "ratioLeast", unfollowed := true, recurses := true, apart := false }
def RatioLeastSaid : Prop := ratioLeastRow.holds Try.pinned (OpenSpec.ofChange ratioLeastSpec)

/-- ITS FALSE NEIGHBOUR: 'it returns false'. Refute it at one input. -/
def ratioLeastWrong : ChangeSpec := { name := "ratioLeast", fn := fun _ => fun
  | [d1, d2] => { results := [.lit (.bool false)], args := [d1, d2] }
  | _ => none }
def RatioLeastWrongFalsely : Prop := ratioLeastRow.holds Try.pinned (OpenSpec.ofChange ratioLeastWrong)

/-- 'quitrentlaw02.RatioOrder': WHATEVER THE INPUT: true; the input reads as it did. -/
def ratioOrderSpec : ChangeSpec := { name := "ratioOrder", fn := fun _ => fun
  | [d1, d2] => { results := [.lit (.bool true)], args := [d1, d2] }
  | _ => none }
def ratioOrderRow : OpenClaim := { program := "ytgkpcboaiaiahaa", sum := "e1ddcf94f821127e9e3907efa0811e0227b777f24a4b2fc8bc19e13dd2823c06", func := "quitrent/quitrentlaw02.RatioOrder", spec := "ratioOrder", unfollowed := true, recurses := true, apart := false }
def RatioOrderSaid : Prop := ratioOrderRow.holds Try.pinned (OpenSpec.ofChange ratioOrderSpec)

/-- ITS FALSE NEIGHBOUR: 'it returns false'. Refute it at one input. -/
def ratioOrderWrong : ChangeSpec := { name := "ratioOrder", fn := fun _ => fun
  | [d1, d2] => { results := [.lit (.bool false)], args := [d1, d2] }
  | _ => none }
def RatioOrderWrongFalsely : Prop := ratioOrderRow.holds Try.pinned (OpenSpec.ofChange ratioOrderWrong)

/-- 'quitrentlaw02.RatioRound': WHATEVER THE INPUT: true; the input reads as it did. -/
def ratioRoundSpec : ChangeSpec := { name := "ratioRound", fn := fun _ => fun
  | [d1, d2] => { results := [.lit (.bool true)], args := [d1, d2] }
  | _ => none }
def ratioRoundRow : OpenClaim := { program := "ytgkpcboaiaiahaa", sum := "e1ddcf94f821127e9e3907efa0811e0227b777f24a4b2fc8bc19e13dd2823c06", func := "quitrent/quitrentlaw02.RatioRound", spec := "ratioRound", unfollowed := true, recurses := true, apart := false }
def RatioRoundSaid : Prop := ratioRoundRow.holds Try.pinned (OpenSpec.ofChange ratioRoundSpec)

/-- ITS FALSE NEIGHBOUR: 'it returns false'. Refute it at one input. -/
def ratioRoundWrong : ChangeSpec := { name := "ratioRound", fn := fun _ => fun
  | [d1, d2] => { results := [.lit (.bool false)], args := [d1, d2] }
  | _ => none }
def RatioRoundWrongFalsely : Prop := ratioRoundRow.holds Try.pinned (OpenSpec.ofChange ratioRoundWrong)

/-- 'quitrentlaw07.ShapeBlocks': WHATEVER THE INPUT: true; the input reads as it did. -/
def shapeBlocksSpec : ChangeSpec := { name := "shapeBlocks", fn := fun _ => fun
  | [d1, d2, d3] => { results := [.lit (.bool true)], args := [d1, d2, d3] }
  | _ => none }
def shapeBlocksRow : OpenClaim := { program := "ytgkpcboaiaiahaa", sum := "e1ddcf94f821127e9e3907efa0811e0227b777f24a4b2fc8bc19e13dd2823c06", func := "quitrent/quitrentlaw07.ShapeBlocks", spec := "shapeBlocks", apart := false }
def ShapeBlocksSaid : Prop := shapeBlocksRow.holds Try.pinned (OpenSpec.ofChange shapeBlocksSpec)

/-- ITS FALSE NEIGHBOUR: 'it returns false'. Refute it at one input. -/
def shapeBlocksWrong : ChangeSpec := { name := "shapeBlocks", fn := fun _ => fun
  | [d1, d2, d3] => { results := [.lit (.bool false)], args := [d1, d2, d3] }
  | _ => none }
def ShapeBlocksWrongFalsely : Prop := shapeBlocksRow.holds Try.pinned (OpenSpec.ofChange shapeBlocksWrong)

/-- 'quitrentlaw03.PlanHalf': WHATEVER THE INPUT: true; the input reads as it did. -/
def planHalfSpec : ChangeSpec := { name := "planHalf", fn := fun _ => fun
  | [d] => { results := [.lit (.bool true)], args := [d] }
  | _ => none }
def planHalfRow : OpenClaim := { program := "ytgkpcboaiaiahaa", sum := "e1ddcf94f821127e9e3907efa0811e0227b777f24a4b2fc8bc19e13dd2823c06", func := "quitrent/quitrentlaw03.PlanHalf", spec := "planHalf", unfollowed := true, recurses := true, apart := false }
def PlanHalfSaid : Prop := planHalfRow.holds Try.pinned (OpenSpec.ofChange planHalfSpec)

/-- ITS FALSE NEIGHBOUR: 'it returns false'. Refute it at one input. -/
def planHalfWrong : ChangeSpec := { name := "planHalf", fn := fun _ => fun
  | [d] => { results := [.lit (.bool false)], args := [d] }
  | _ => none }
def PlanHalfWrongFalsely : Prop := planHalfRow.holds Try.pinned (OpenSpec.ofChange planHalfWrong)

/-- 'quitrentlaw01.PackGets': WHATEVER THE INPUT: true; the input reads as it did. -/
def packGetsSpec : ChangeSpec := { name := "packGets", fn := fun _ => fun
  | [d1, d2, d3] => { results := [.lit (.bool true)], args := [d1, d2, d3] }
  | _ => none }
def packGetsRow : OpenClaim := { program := "ytgkpcboaiaiahaa", sum := "e1ddcf94f821127e9e3907efa0811e0227b777f24a4b2fc8bc19e13dd2823c06", func := "quitrent/quitrentlaw01.PackGets", spec := "packGets", apart := false }
def PackGetsSaid : Prop := packGetsRow.holds Try.pinned (OpenSpec.ofChange packGetsSpec)

/-- ITS FALSE NEIGHBOUR: 'it returns false'. Refute it at one input. -/
def packGetsWrong : ChangeSpec := { name := "packGets", fn := fun _ => fun
  | [d1, d2, d3] => { results := [.lit (.bool false)], args := [d1, d2, d3] }
  | _ => none }
def PackGetsWrongFalsely : Prop := packGetsRow.holds Try.pinned (OpenSpec.ofChange packGetsWrong)

/-- 'quitrentlaw01.PackPuts': WHATEVER THE INPUT: true; the input reads as it did. -/
def packPutsSpec : ChangeSpec := { name := "packPuts", fn := fun _ => fun
  | [d1, d2] => { results := [.lit (.bool true)], args := [d1, d2] }
  | _ => none }
def packPutsRow : OpenClaim := { program := "ytgkpcboaiaiahaa", sum := "e1ddcf94f821127e9e3907efa0811e0227b777f24a4b2fc8bc19e13dd2823c06", func := "quitrent/quitrentlaw01.PackPuts", spec := "packPuts", apart := false }
def PackPutsSaid : Prop := packPutsRow.holds Try.pinned (OpenSpec.ofChange packPutsSpec)

/-- ITS FALSE NEIGHBOUR: 'it returns false'. Refute it at one input. -/
def packPutsWrong : ChangeSpec := { name := "packPuts", fn := fun _ => fun
  | [d1, d2] => { results := [.lit (.bool false)], args := [d1, d2] }
  | _ => none }
def PackPutsWrongFalsely : Prop := packPutsRow.holds Try.pinned (OpenSpec.ofChange packPutsWrong)

/-- 'quitrentlaw01.PackKeeps': WHATEVER THE INPUT: true; the input reads as it did. -/
def packKeepsSpec : ChangeSpec := { name := "packKeeps", fn := fun _ => fun
  | [d1, d2, d3] => { results := [.lit (.bool true)], args := [d1, d2, d3] }
  | _ => none }
def packKeepsRow : OpenClaim := { program := "ytgkpcboaiaiahaa", sum := "e1ddcf94f821127e9e3907efa0811e0227b777f24a4b2fc8bc19e13dd2823c06", func := "quitrent/quitrentlaw01.PackKeeps", spec := "packKeeps", apart := false }
def PackKeepsSaid : Prop := packKeepsRow.holds Try.pinned (OpenSpec.ofChange packKeepsSpec)

/-- ITS FALSE NEIGHBOUR: 'it returns false'. Refute it at one input. -/
def packKeepsWrong : ChangeSpec := { name := "packKeeps", fn := fun _ => fun
  | [d1, d2, d3] => { results := [.lit (.bool false)], args := [d1, d2, d3] }
  | _ => none }
def PackKeepsWrongFalsely : Prop := packKeepsRow.holds Try.pinned (OpenSpec.ofChange packKeepsWrong)

/-- 'quitrenttop.WholeNumbers': WHATEVER THE INPUT: true; the input reads as it did. -/
def wholeNumbersSpec : ChangeSpec := { name := "wholeNumbers", fn := fun _ => fun
  | [d1, d2] => { results := [.lit (.bool true)], args := [d1, d2] }
  | _ => none }
def wholeNumbersRow : OpenClaim := { program := "ytgkpcboaiaiahaa", sum := "e1ddcf94f821127e9e3907efa0811e0227b777f24a4b2fc8bc19e13dd2823c06", func := "quitrent/quitrenttop.WholeNumbers", spec := "wholeNumbers", inPlace := ["sync/atomic.AddInt64", "sync/atomic.LoadUint32", "(*internal/sync.Mutex).Lock", "internal/race.Disable", "sync/atomic.CompareAndSwapInt32", "internal/race.Enable", "internal/race.Acquire", "(*internal/sync.Mutex).lockSlow", "internal/sync.runtime_canSpin", "internal/sync.runtime_doSpin", "internal/sync.throw", "internal/sync.runtime_nanotime", "internal/sync.runtime_SemacquireMutex", "sync/atomic.AddInt32", "(*internal/sync.Mutex).Unlock", "internal/race.ReleaseMerge", "(*internal/sync.Mutex).unlockSlow", "internal/sync.fatal", "internal/sync.runtime_Semrelease", "sync/atomic.StoreUint32"], unfollowed := true, recurses := true, apart := false }
def WholeNumbersSaid : Prop := wholeNumbersRow.holds Try.pinned (OpenSpec.ofChange wholeNumbersSpec)

/-- ITS FALSE NEIGHBOUR: 'it returns false'. Refute it at one input. -/
def wholeNumbersWrong : ChangeSpec := { name := "wholeNumbers", fn := fun _ => fun
  | [d1, d2] => { results := [.lit (.bool false)], args := [d1, d2] }
  | _ => none }
def WholeNumbersWrongFalsely : Prop := wholeNumbersRow.holds Try.pinned (OpenSpec.ofChange wholeNumbersWrong)

/-- 'quitrentlaw01.PackSplits': WHATEVER THE INPUT: true; the input reads as it did. -/
def packSplitsSpec : ChangeSpec := { name := "packSplits", fn := fun _ => fun
  | [d1, d2, d3] => { results := [.lit (.bool true)], args := [d1, d2, d3] }
  | _ => none }
def packSplitsRow : OpenClaim := { program := "ytgkpcboaiaiahaa", sum := "e1ddcf94f821127e9e3907efa0811e0227b777f24a4b2fc8bc19e13dd2823c06", func := "quitrent/quitrentlaw01.PackSplits", spec := "packSplits", apart := false }
def PackSplitsSaid : Prop := packSplitsRow.holds Try.pinned (OpenSpec.ofChange packSplitsSpec)

/-- ITS FALSE NEIGHBOUR: 'it returns false'. Refute it at one input. -/
def packSplitsWrong : ChangeSpec := { name := "packSplits", fn := fun _ => fun
  | [d1, d2, d3] => { results := [.lit (.bool false)], args := [d1, d2, d3] }
  | _ => none }
def PackSplitsWrongFalsely : Prop := packSplitsRow.holds Try.pinned (OpenSpec.ofChange packSplitsWrong)

/-- 'quitrentlaw01.PackBack': WHATEVER THE INPUT: true; the input reads as it did. -/
def packBackSpec : ChangeSpec := { name := "packBack", fn := fun _ => fun
  | [d1, d2, d3] => { results := [.lit (.bool true)], args := [d1, d2, d3] }
  | _ => none }
def packBackRow : OpenClaim := { program := "ytgkpcboaiaiahaa", sum := "e1ddcf94f821127e9e3907efa0811e0227b777f24a4b2fc8bc19e13dd2823c06", func := "quitrent/quitrentlaw01.PackBack", spec := "packBack", apart := false }
def PackBackSaid : Prop := packBackRow.holds Try.pinned (OpenSpec.ofChange packBackSpec)

/-- ITS FALSE NEIGHBOUR: 'it returns false'. Refute it at one input. -/
def packBackWrong : ChangeSpec := { name := "packBack", fn := fun _ => fun
  | [d1, d2, d3] => { results := [.lit (.bool false)], args := [d1, d2, d3] }
  | _ => none }
def PackBackWrongFalsely : Prop := packBackRow.holds Try.pinned (OpenSpec.ofChange packBackWrong)

/- THE SECOND FORM. 'bulk': how many values and letters a reading holds, each counted each time it is reached (what is shared counts as often as it is met; a slice's spare places count too). A statement '..UptoSaid' is the law's where the arguments, and the package variables that the reading takes, are together of bulk at most 1048576: NARROWER than '..Said'. Prove '..Said' where nothing that the law and all that it calls make is longer than what came in: it says more and counts as full. Else prove '..UptoSaid'. A law counts once. -/
mutual
def uptoBulk {H : Type} : DataW H → Nat
  | .lit (.string bytes) => bytes.length + 1
  | .lit _ => 1
  | .nil => 1
  | .ptr d => uptoBulk d + 1
  | .slice elems spare => uptoBulkAll elems + uptoBulkAll spare + 1
  | .agg parts => uptoBulkAll parts + 1
  | .iface _ d => uptoBulk d + 1
  | .map entries => uptoBulkEntries entries + 1
  | .held _ => 1
def uptoBulkAll {H : Type} : List (DataW H) → Nat
  | [] => 0
  | d :: r => uptoBulk d + uptoBulkAll r
def uptoBulkEntries {H : Type} : List (Lit × DataW H) → Nat
  | [] => 0
  | x :: r => uptoBulkEntry x + uptoBulkEntries r
def uptoBulkEntry {H : Type} : Lit × DataW H → Nat
  | (.string bytes, d) => bytes.length + uptoBulk d + 1
  | (_, d) => uptoBulk d + 1
 end
def uptoSmall : (H : Type) → List (DataW H) → Bool := fun _ ds => decide (uptoBulkAll ds ≤ 1048576)
def OpenSpec.upto (s : _root_.Go.ChangeSpec) : _root_.Go.OpenSpec := { _root_.Go.OpenSpec.ofChange s with cond := some uptoSmall }

/-- 'quitrentlaw02.RatioSums', WHERE WHAT IT READS IS OF BULK AT MOST 1048576: true; the input reads as it did. -/
def ratioSumsUptoRow : OpenClaim := { program := "ytgkpcboaiaiahaa", sum := "e1ddcf94f821127e9e3907efa0811e0227b777f24a4b2fc8bc19e13dd2823c06", func := "quitrent/quitrentlaw02.RatioSums", spec := "ratioSums", unfollowed := true, recurses := true, apart := false, narrowed := true }
def RatioSumsUptoSaid : Prop := ratioSumsUptoRow.holds Try.pinned (OpenSpec.upto ratioSumsSpec)

/-- 'quitrentlaw02.RatioShares', WHERE WHAT IT READS IS OF BULK AT MOST 1048576: true; the input reads as it did. -/
def ratioSharesUptoRow : OpenClaim := { program := "ytgkpcboaiaiahaa", sum := "e1ddcf94f821127e9e3907efa0811e0227b777f24a4b2fc8bc19e13dd2823c06", func := "quitrent/quitrentlaw02.RatioShares", spec := "ratioShares", unfollowed := true, recurses := true, apart := false, narrowed := true }
def RatioSharesUptoSaid : Prop := ratioSharesUptoRow.holds Try.pinned (OpenSpec.upto ratioSharesSpec)

/-- 'quitrentlaw02.RatioLeast', WHERE WHAT IT READS IS OF BULK AT MOST 1048576: true; the input reads as it did. -/
def ratioLeastUptoRow : OpenClaim := { program := "ytgkpcboaiaiahaa", sum := "e1ddcf94f821127e9e3907efa0811e0227b777f24a4b2fc8bc19e13dd2823c06", func := "quitrent/quitrentlaw02.RatioLeast", spec := "ratioLeast", unfollowed := true, recurses := true, apart := false, narrowed := true }
def RatioLeastUptoSaid : Prop := ratioLeastUptoRow.holds Try.pinned (OpenSpec.upto ratioLeastSpec)

/-- 'quitrentlaw02.RatioOrder', WHERE WHAT IT READS IS OF BULK AT MOST 1048576: true; the input reads as it did. -/
def ratioOrderUptoRow : OpenClaim := { program := "ytgkpcboaiaiahaa", sum := "e1ddcf94f821127e9e3907efa0811e0227b777f24a4b2fc8bc19e13dd2823c06", func := "quitrent/quitrentlaw02.RatioOrder", spec := "ratioOrder", unfollowed := true, recurses := true, apart := false, narrowed := true }
def RatioOrderUptoSaid : Prop := ratioOrderUptoRow.holds Try.pinned (OpenSpec.upto ratioOrderSpec)

/-- 'quitrentlaw02.RatioRound', WHERE WHAT IT READS IS OF BULK AT MOST 1048576: true; the input reads as it did. -/
def ratioRoundUptoRow : OpenClaim := { program := "ytgkpcboaiaiahaa", sum := "e1ddcf94f821127e9e3907efa0811e0227b777f24a4b2fc8bc19e13dd2823c06", func := "quitrent/quitrentlaw02.RatioRound", spec := "ratioRound", unfollowed := true, recurses := true, apart := false, narrowed := true }
def RatioRoundUptoSaid : Prop := ratioRoundUptoRow.holds Try.pinned (OpenSpec.upto ratioRoundSpec)

/-- 'quitrentlaw07.ShapeBlocks', WHERE WHAT IT READS IS OF BULK AT MOST 1048576: true; the input reads as it did. -/
def shapeBlocksUptoRow : OpenClaim := { program := "ytgkpcboaiaiahaa", sum := "e1ddcf94f821127e9e3907efa0811e0227b777f24a4b2fc8bc19e13dd2823c06", func := "quitrent/quitrentlaw07.ShapeBlocks", spec := "shapeBlocks", apart := false, narrowed := true }
def ShapeBlocksUptoSaid : Prop := shapeBlocksUptoRow.holds Try.pinned (OpenSpec.upto shapeBlocksSpec)

/-- 'quitrentlaw03.PlanHalf', WHERE WHAT IT READS IS OF BULK AT MOST 1048576: true; the input reads as it did. -/
def planHalfUptoRow : OpenClaim := { program := "ytgkpcboaiaiahaa", sum := "e1ddcf94f821127e9e3907efa0811e0227b777f24a4b2fc8bc19e13dd2823c06", func := "quitrent/quitrentlaw03.PlanHalf", spec := "planHalf", unfollowed := true, recurses := true, apart := false, narrowed := true }
def PlanHalfUptoSaid : Prop := planHalfUptoRow.holds Try.pinned (OpenSpec.upto planHalfSpec)

/-- 'quitrentlaw01.PackGets', WHERE WHAT IT READS IS OF BULK AT MOST 1048576: true; the input reads as it did. -/
def packGetsUptoRow : OpenClaim := { program := "ytgkpcboaiaiahaa", sum := "e1ddcf94f821127e9e3907efa0811e0227b777f24a4b2fc8bc19e13dd2823c06", func := "quitrent/quitrentlaw01.PackGets", spec := "packGets", apart := false, narrowed := true }
def PackGetsUptoSaid : Prop := packGetsUptoRow.holds Try.pinned (OpenSpec.upto packGetsSpec)

/-- 'quitrentlaw01.PackPuts', WHERE WHAT IT READS IS OF BULK AT MOST 1048576: true; the input reads as it did. -/
def packPutsUptoRow : OpenClaim := { program := "ytgkpcboaiaiahaa", sum := "e1ddcf94f821127e9e3907efa0811e0227b777f24a4b2fc8bc19e13dd2823c06", func := "quitrent/quitrentlaw01.PackPuts", spec := "packPuts", apart := false, narrowed := true }
def PackPutsUptoSaid : Prop := packPutsUptoRow.holds Try.pinned (OpenSpec.upto packPutsSpec)

/-- 'quitrentlaw01.PackKeeps', WHERE WHAT IT READS IS OF BULK AT MOST 1048576: true; the input reads as it did. -/
def packKeepsUptoRow : OpenClaim := { program := "ytgkpcboaiaiahaa", sum := "e1ddcf94f821127e9e3907efa0811e0227b777f24a4b2fc8bc19e13dd2823c06", func := "quitrent/quitrentlaw01.PackKeeps", spec := "packKeeps", apart := false, narrowed := true }
def PackKeepsUptoSaid : Prop := packKeepsUptoRow.holds Try.pinned (OpenSpec.upto packKeepsSpec)

/-- 'quitrenttop.WholeNumbers', WHERE WHAT IT READS IS OF BULK AT MOST 1048576: true; the input reads as it did. -/
def wholeNumbersUptoRow : OpenClaim := { program := "ytgkpcboaiaiahaa", sum := "e1ddcf94f821127e9e3907efa0811e0227b777f24a4b2fc8bc19e13dd2823c06", func := "quitrent/quitrenttop.WholeNumbers", spec := "wholeNumbers", inPlace := ["sync/atomic.AddInt64", "sync/atomic.LoadUint32", "(*internal/sync.Mutex).Lock", "internal/race.Disable", "sync/atomic.CompareAndSwapInt32", "internal/race.Enable", "internal/race.Acquire", "(*internal/sync.Mutex).lockSlow", "internal/sync.runtime_canSpin", "internal/sync.runtime_doSpin", "internal/sync.throw", "internal/sync.runtime_nanotime", "internal/sync.runtime_SemacquireMutex", "sync/atomic.AddInt32", "(*internal/sync.Mutex).Unlock", "internal/race.ReleaseMerge", "(*internal/sync.Mutex).unlockSlow", "internal/sync.fatal", "internal/sync.runtime_Semrelease", "sync/atomic.StoreUint32"], unfollowed := true, recurses := true, apart := false, narrowed := true }
def WholeNumbersUptoSaid : Prop := wholeNumbersUptoRow.holds Try.pinned (OpenSpec.upto wholeNumbersSpec)

/-- 'quitrentlaw01.PackSplits', WHERE WHAT IT READS IS OF BULK AT MOST 1048576: true; the input reads as it did. -/
def packSplitsUptoRow : OpenClaim := { program := "ytgkpcboaiaiahaa", sum := "e1ddcf94f821127e9e3907efa0811e0227b777f24a4b2fc8bc19e13dd2823c06", func := "quitrent/quitrentlaw01.PackSplits", spec := "packSplits", apart := false, narrowed := true }
def PackSplitsUptoSaid : Prop := packSplitsUptoRow.holds Try.pinned (OpenSpec.upto packSplitsSpec)

/-- 'quitrentlaw01.PackBack', WHERE WHAT IT READS IS OF BULK AT MOST 1048576: true; the input reads as it did. -/
def packBackUptoRow : OpenClaim := { program := "ytgkpcboaiaiahaa", sum := "e1ddcf94f821127e9e3907efa0811e0227b777f24a4b2fc8bc19e13dd2823c06", func := "quitrent/quitrentlaw01.PackBack", spec := "packBack", apart := false, narrowed := true }
def PackBackUptoSaid : Prop := packBackUptoRow.holds Try.pinned (OpenSpec.upto packBackSpec)

end Rows
end Go.Proofs.Ytgkpcboaiaiahaa
