/-
  NARROWER THAN 'FOR EVERY INPUT', by the rows' own cells (each row's printed sentence says how): TintTurns: laid · TintNobody: laid · TintPlays: laid · WholeOften: laid.
  DERIVED. THE GIVEN ROWS OF THIS SEAT. 4 by the template 'for every input the law returns true; each argument reads behind the call as it read before'; 0 by the template 'total and deterministic' (their statements: YtobeonkddamnoaaGreatDoorTotals.lean).
  GIVEN WITH THE SEED: the statements are not yours to turn. If you find one false, say at which input.
  Laid BY PROGRAM, IN A SANDBOX (cutbox-rows.mjs): the forced cells as the released guide's own fill.sh prints them over the translation 0e465dc6353fecf2… (all of the seat's roots in one cut). By AI agents, Wed Nov 11 2026. No macro, syntax, notation, axiom, sorry.
-/
import Derived.Test.YtobeonkddamnoaaGreatDoorChecked
import GoSem.Claim
import GoSem.ClaimJoined
import GoSem.ClaimMapViews
import Derived.JoinedTies
import Derived.KernelRfl
namespace Go.Proofs.YtobeonkddamnoaaGreatDoor
/- THE CELL 'sum', in the pinned program and in every row, IS THE sha256 OF THE DUMP (.gsa) THAT YtobeonkddamnoaaGreatDoorProg.lean LOADS. Nothing in Lean hashes anything: it is a label: what it is worth is what the hold of that sum in a sandbox is worth. -/
noncomputable def Tryz.pinned : Pinned := { name := "ytobeonkddamnoaagreatdoor", sum := "0e465dc6353fecf2a65c6c02335cbe1d037ab623f8b1fc34f37add0a45ec0a98", checked := Tryz.checked }
namespace Rows
def none {H : Type} : Left H := { results := [], args := [] }

/- WHAT THE LISTED PACKAGE-LEVEL VARIABLES READ AS WHEN THE CALL BEGINS. Each datum BY PROGRAM (the guide's laid-datum.mjs) off the statement by which the dump's own 'gosem.cut.vars' lays the variable. In a bare row this is a premise. The card (YtobeonkddamnoaaGreatDoorCards.lean) ties it to the program's text. -/
def laid_quitrent_tag_none {H : Type} : DataW H := .agg [.lit (.int .i64 0), .lit (.int .i64 0), .lit (.int .i64 0), .lit (.int .i64 0), .lit (.int .i64 0)]

/-- 'quitrentlaw13.TintTurns': WHATEVER THE INPUT: true; the input reads as it did. -/
def tintTurnsSpec : ChangeSpec := { name := "tintTurns", fn := fun _ => fun
  | [d1, d2, d3] => { results := [.lit (.bool true)], args := [d1, d2, d3] }
  | _ => none }
def tintTurnsRow : OpenClaim := { program := "ytobeonkddamnoaagreatdoor", sum := "0e465dc6353fecf2a65c6c02335cbe1d037ab623f8b1fc34f37add0a45ec0a98", func := "quitrent/quitrentlaw13.TintTurns", spec := "tintTurns", inPlace := ["sync/atomic.AddUint64"], unfollowed := true, recurses := true, named := ["quitrent/tag.none"], apart := false, laid := [("quitrent/tag.none", laid_quitrent_tag_none)] }
def TintTurnsSaid : Prop := tintTurnsRow.holds Tryz.pinned (OpenSpec.ofChange tintTurnsSpec)

/-- ITS FALSE NEIGHBOUR: 'it returns false'. Refute it at one input. -/
def tintTurnsWrong : ChangeSpec := { name := "tintTurns", fn := fun _ => fun
  | [d1, d2, d3] => { results := [.lit (.bool false)], args := [d1, d2, d3] }
  | _ => none }
def TintTurnsWrongFalsely : Prop := tintTurnsRow.holds Tryz.pinned (OpenSpec.ofChange tintTurnsWrong)

/-- 'quitrentlaw13.TintNobody': WHATEVER THE INPUT: true; the input reads as it did. -/
def tintNobodySpec : ChangeSpec := { name := "tintNobody", fn := fun _ => fun
  | [d1, d2] => { results := [.lit (.bool true)], args := [d1, d2] }
  | _ => none }
def tintNobodyRow : OpenClaim := { program := "ytobeonkddamnoaagreatdoor", sum := "0e465dc6353fecf2a65c6c02335cbe1d037ab623f8b1fc34f37add0a45ec0a98", func := "quitrent/quitrentlaw13.TintNobody", spec := "tintNobody", inPlace := ["sync/atomic.AddUint64"], unfollowed := true, recurses := true, named := ["quitrent/tag.none"], apart := false, laid := [("quitrent/tag.none", laid_quitrent_tag_none)] }
def TintNobodySaid : Prop := tintNobodyRow.holds Tryz.pinned (OpenSpec.ofChange tintNobodySpec)

/-- ITS FALSE NEIGHBOUR: 'it returns false'. Refute it at one input. -/
def tintNobodyWrong : ChangeSpec := { name := "tintNobody", fn := fun _ => fun
  | [d1, d2] => { results := [.lit (.bool false)], args := [d1, d2] }
  | _ => none }
def TintNobodyWrongFalsely : Prop := tintNobodyRow.holds Tryz.pinned (OpenSpec.ofChange tintNobodyWrong)

/-- 'quitrentlaw13.TintPlays': WHATEVER THE INPUT: true; the input reads as it did. -/
def tintPlaysSpec : ChangeSpec := { name := "tintPlays", fn := fun _ => fun
  | [d1, d2] => { results := [.lit (.bool true)], args := [d1, d2] }
  | _ => none }
def tintPlaysRow : OpenClaim := { program := "ytobeonkddamnoaagreatdoor", sum := "0e465dc6353fecf2a65c6c02335cbe1d037ab623f8b1fc34f37add0a45ec0a98", func := "quitrent/quitrentlaw13.TintPlays", spec := "tintPlays", inPlace := ["sync/atomic.AddUint64", "sync/atomic.LoadUint64"], unfollowed := true, recurses := true, named := ["quitrent/tag.none"], apart := false, laid := [("quitrent/tag.none", laid_quitrent_tag_none)] }
def TintPlaysSaid : Prop := tintPlaysRow.holds Tryz.pinned (OpenSpec.ofChange tintPlaysSpec)

/-- ITS FALSE NEIGHBOUR: 'it returns false'. Refute it at one input. -/
def tintPlaysWrong : ChangeSpec := { name := "tintPlays", fn := fun _ => fun
  | [d1, d2] => { results := [.lit (.bool false)], args := [d1, d2] }
  | _ => none }
def TintPlaysWrongFalsely : Prop := tintPlaysRow.holds Tryz.pinned (OpenSpec.ofChange tintPlaysWrong)

/-- 'quitrenttop.WholeOften': WHATEVER THE INPUT: true; the input reads as it did. -/
def wholeOftenSpec : ChangeSpec := { name := "wholeOften", fn := fun _ => fun
  | [d1, d2, d3] => { results := [.lit (.bool true)], args := [d1, d2, d3] }
  | _ => none }
def wholeOftenRow : OpenClaim := { program := "ytobeonkddamnoaagreatdoor", sum := "0e465dc6353fecf2a65c6c02335cbe1d037ab623f8b1fc34f37add0a45ec0a98", func := "quitrent/quitrenttop.WholeOften", spec := "wholeOften", inPlace := ["sync/atomic.AddUint64"], unfollowed := true, recurses := true, named := ["quitrent/tag.none"], apart := false, laid := [("quitrent/tag.none", laid_quitrent_tag_none)] }
def WholeOftenSaid : Prop := wholeOftenRow.holds Tryz.pinned (OpenSpec.ofChange wholeOftenSpec)

/-- ITS FALSE NEIGHBOUR: 'it returns false'. Refute it at one input. -/
def wholeOftenWrong : ChangeSpec := { name := "wholeOften", fn := fun _ => fun
  | [d1, d2, d3] => { results := [.lit (.bool false)], args := [d1, d2, d3] }
  | _ => none }
def WholeOftenWrongFalsely : Prop := wholeOftenRow.holds Tryz.pinned (OpenSpec.ofChange wholeOftenWrong)

/- THE SECOND FORM. 'bulk': how many values and letters a reading holds, each counted each time it is reached (what is shared counts as often as it is met; a slice's spare places count too). A statement '..UptoSaid' is the law's where the arguments, and the package variables that the reading takes, are together of bulk at most 1048576: NARROWER than '..Said'. Prove '..Said' where nothing that the law and all that it calls make is longer than what came in: it says more and counts as full. Else prove '..UptoSaid'. A law counts once. -/
mutual
def uptoBulk {H : Type} : DataW H → Nat
  | .lit (.string bytes) => bytes.length + 1
  | .lit _ => 1
  | .nil => 1
  | .ptr d => uptoBulk d + 1
  | .slice elems spare => uptoBulkAll elems + uptoBulkAll spare + 1
  | .agg parts => uptoBulkAll parts + 1
  | .iface _ d => uptoBulk d + 1
  | .map entries => uptoBulkEntries entries + 1
  | .held _ => 1
def uptoBulkAll {H : Type} : List (DataW H) → Nat
  | [] => 0
  | d :: r => uptoBulk d + uptoBulkAll r
def uptoBulkEntries {H : Type} : List (Lit × DataW H) → Nat
  | [] => 0
  | x :: r => uptoBulkEntry x + uptoBulkEntries r
def uptoBulkEntry {H : Type} : Lit × DataW H → Nat
  | (.string bytes, d) => bytes.length + uptoBulk d + 1
  | (_, d) => uptoBulk d + 1
 end
def uptoSmall : (H : Type) → List (DataW H) → Bool := fun _ ds => decide (uptoBulkAll ds ≤ 1048576)
def OpenSpec.upto (s : _root_.Go.ChangeSpec) : _root_.Go.OpenSpec := { _root_.Go.OpenSpec.ofChange s with cond := some uptoSmall }

/-- 'quitrentlaw13.TintTurns', WHERE WHAT IT READS IS OF BULK AT MOST 1048576: true; the input reads as it did. -/
def tintTurnsUptoRow : OpenClaim := { program := "ytobeonkddamnoaagreatdoor", sum := "0e465dc6353fecf2a65c6c02335cbe1d037ab623f8b1fc34f37add0a45ec0a98", func := "quitrent/quitrentlaw13.TintTurns", spec := "tintTurns", inPlace := ["sync/atomic.AddUint64"], unfollowed := true, recurses := true, named := ["quitrent/tag.none"], apart := false, laid := [("quitrent/tag.none", laid_quitrent_tag_none)], narrowed := true }
def TintTurnsUptoSaid : Prop := tintTurnsUptoRow.holds Tryz.pinned (OpenSpec.upto tintTurnsSpec)

/-- 'quitrentlaw13.TintNobody', WHERE WHAT IT READS IS OF BULK AT MOST 1048576: true; the input reads as it did. -/
def tintNobodyUptoRow : OpenClaim := { program := "ytobeonkddamnoaagreatdoor", sum := "0e465dc6353fecf2a65c6c02335cbe1d037ab623f8b1fc34f37add0a45ec0a98", func := "quitrent/quitrentlaw13.TintNobody", spec := "tintNobody", inPlace := ["sync/atomic.AddUint64"], unfollowed := true, recurses := true, named := ["quitrent/tag.none"], apart := false, laid := [("quitrent/tag.none", laid_quitrent_tag_none)], narrowed := true }
def TintNobodyUptoSaid : Prop := tintNobodyUptoRow.holds Tryz.pinned (OpenSpec.upto tintNobodySpec)

/-- 'quitrentlaw13.TintPlays', WHERE WHAT IT READS IS OF BULK AT MOST 1048576: true; the input reads as it did. -/
def tintPlaysUptoRow : OpenClaim := { program := "ytobeonkddamnoaagreatdoor", sum := "0e465dc6353fecf2a65c6c02335cbe1d037ab623f8b1fc34f37add0a45ec0a98", func := "quitrent/quitrentlaw13.TintPlays", spec := "tintPlays", inPlace := ["sync/atomic.AddUint64", "sync/atomic.LoadUint64"], unfollowed := true, recurses := true, named := ["quitrent/tag.none"], apart := false, laid := [("quitrent/tag.none", laid_quitrent_tag_none)], narrowed := true }
def TintPlaysUptoSaid : Prop := tintPlaysUptoRow.holds Tryz.pinned (OpenSpec.upto tintPlaysSpec)

/-- 'quitrenttop.WholeOften', WHERE WHAT IT READS IS OF BULK AT MOST 1048576: true; the input reads as it did. -/
def wholeOftenUptoRow : OpenClaim := { program := "ytobeonkddamnoaagreatdoor", sum := "0e465dc6353fecf2a65c6c02335cbe1d037ab623f8b1fc34f37add0a45ec0a98", func := "quitrent/quitrenttop.WholeOften", spec := "wholeOften", inPlace := ["sync/atomic.AddUint64"], unfollowed := true, recurses := true, named := ["quitrent/tag.none"], apart := false, laid := [("quitrent/tag.none", laid_quitrent_tag_none)], narrowed := true }
def WholeOftenUptoSaid : Prop := wholeOftenUptoRow.holds Tryz.pinned (OpenSpec.upto wholeOftenSpec)

end Rows
end Go.Proofs.YtobeonkddamnoaaGreatDoor
