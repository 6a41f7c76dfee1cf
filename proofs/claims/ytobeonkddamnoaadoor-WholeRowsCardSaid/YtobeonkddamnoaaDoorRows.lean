/-
  NARROWER THAN 'FOR EVERY INPUT', by the rows' own cells (each row's printed sentence says how): WholeTags: laid · RingOrder: laid · RingNobody: laid · RingPlays: laid · CountAlone: laid · CountNobody: laid · ObjWhole: laid · TintIdle: laid · ObjApart: laid · ObjNobody: laid · WholeRows: laid.
  DERIVED. THE GIVEN ROWS OF THIS SEAT. 11 by the template 'for every input the law returns true; each argument reads behind the call as it read before'; 0 by the template 'total and deterministic' (their statements: YtobeonkddamnoaaDoorTotals.lean).
  GIVEN WITH THE SEED: the statements are not yours to turn. If you find one false, say at which input.
  Laid BY PROGRAM, IN A SANDBOX (cutbox-rows.mjs): the forced cells as the released guide's own fill.sh prints them over the translation daeb457e49526f21… (all of the seat's roots in one cut). By AI agents, Wed Nov 11 2026. No macro, syntax, notation, axiom, sorry.
-/
import Derived.Test.YtobeonkddamnoaaDoorChecked
import GoSem.Claim
import GoSem.ClaimJoined
import GoSem.ClaimMapViews
import Derived.JoinedTies
import Derived.KernelRfl
namespace Go.Proofs.YtobeonkddamnoaaDoor
/- THE CELL 'sum', in the pinned program and in every row, IS THE sha256 OF THE DUMP (.gsa) THAT YtobeonkddamnoaaDoorProg.lean LOADS. Nothing in Lean hashes anything: it is a label: what it is worth is what the hold of that sum in a sandbox is worth. -/
noncomputable def Tryd.pinned : Pinned := { name := "ytobeonkddamnoaadoor", sum := "daeb457e49526f21dac75fe1370199b3a7ff2537ee7d070440b808aa7817dd1c", checked := Tryd.checked }
namespace Rows
def none {H : Type} : Left H := { results := [], args := [] }

/- WHAT THE LISTED PACKAGE-LEVEL VARIABLES READ AS WHEN THE CALL BEGINS. Each datum BY PROGRAM (the guide's laid-datum.mjs) off the statement by which the dump's own 'gosem.cut.vars' lays the variable. In a bare row this is a premise. The card (YtobeonkddamnoaaDoorCards.lean) ties it to the program's text. -/
def laid_quitrent_tag_none {H : Type} : DataW H := .agg [.lit (.int .i64 0), .lit (.int .i64 0), .lit (.int .i64 0), .lit (.int .i64 0), .lit (.int .i64 0)]

/-- 'quitrenttop.WholeTags': WHATEVER THE INPUT: true; the input reads as it did. -/
def wholeTagsSpec : ChangeSpec := { name := "wholeTags", fn := fun _ => fun
  | [d1, d2, d3] => { results := [.lit (.bool true)], args := [d1, d2, d3] }
  | _ => none }
def wholeTagsRow : OpenClaim := { program := "ytobeonkddamnoaadoor", sum := "daeb457e49526f21dac75fe1370199b3a7ff2537ee7d070440b808aa7817dd1c", func := "quitrent/quitrenttop.WholeTags", spec := "wholeTags", inPlace := ["sync/atomic.AddUint64"], unfollowed := true, recurses := true, named := ["quitrent/tag.none"], apart := false, laid := [("quitrent/tag.none", laid_quitrent_tag_none)] }
def WholeTagsSaid : Prop := wholeTagsRow.holds Tryd.pinned (OpenSpec.ofChange wholeTagsSpec)

/-- ITS FALSE NEIGHBOUR: 'it returns false'. Refute it at one input. -/
def wholeTagsWrong : ChangeSpec := { name := "wholeTags", fn := fun _ => fun
  | [d1, d2, d3] => { results := [.lit (.bool false)], args := [d1, d2, d3] }
  | _ => none }
def WholeTagsWrongFalsely : Prop := wholeTagsRow.holds Tryd.pinned (OpenSpec.ofChange wholeTagsWrong)

/-- 'quitrentlaw09.RingOrder': WHATEVER THE INPUT: true; the input reads as it did. -/
def ringOrderSpec : ChangeSpec := { name := "ringOrder", fn := fun _ => fun
  | [d1, d2] => { results := [.lit (.bool true)], args := [d1, d2] }
  | _ => none }
def ringOrderRow : OpenClaim := { program := "ytobeonkddamnoaadoor", sum := "daeb457e49526f21dac75fe1370199b3a7ff2537ee7d070440b808aa7817dd1c", func := "quitrent/quitrentlaw09.RingOrder", spec := "ringOrder", inPlace := ["sync/atomic.AddUint64"], unfollowed := true, recurses := true, named := ["quitrent/tag.none"], apart := false, laid := [("quitrent/tag.none", laid_quitrent_tag_none)] }
def RingOrderSaid : Prop := ringOrderRow.holds Tryd.pinned (OpenSpec.ofChange ringOrderSpec)

/-- ITS FALSE NEIGHBOUR: 'it returns false'. Refute it at one input. -/
def ringOrderWrong : ChangeSpec := { name := "ringOrder", fn := fun _ => fun
  | [d1, d2] => { results := [.lit (.bool false)], args := [d1, d2] }
  | _ => none }
def RingOrderWrongFalsely : Prop := ringOrderRow.holds Tryd.pinned (OpenSpec.ofChange ringOrderWrong)

/-- 'quitrentlaw09.RingNobody': WHATEVER THE INPUT: true; the input reads as it did. -/
def ringNobodySpec : ChangeSpec := { name := "ringNobody", fn := fun _ => fun
  | [d] => { results := [.lit (.bool true)], args := [d] }
  | _ => none }
def ringNobodyRow : OpenClaim := { program := "ytobeonkddamnoaadoor", sum := "daeb457e49526f21dac75fe1370199b3a7ff2537ee7d070440b808aa7817dd1c", func := "quitrent/quitrentlaw09.RingNobody", spec := "ringNobody", inPlace := ["sync/atomic.AddUint64"], unfollowed := true, recurses := true, named := ["quitrent/tag.none"], apart := false, laid := [("quitrent/tag.none", laid_quitrent_tag_none)] }
def RingNobodySaid : Prop := ringNobodyRow.holds Tryd.pinned (OpenSpec.ofChange ringNobodySpec)

/-- ITS FALSE NEIGHBOUR: 'it returns false'. Refute it at one input. -/
def ringNobodyWrong : ChangeSpec := { name := "ringNobody", fn := fun _ => fun
  | [d] => { results := [.lit (.bool false)], args := [d] }
  | _ => none }
def RingNobodyWrongFalsely : Prop := ringNobodyRow.holds Tryd.pinned (OpenSpec.ofChange ringNobodyWrong)

/-- 'quitrentlaw09.RingPlays': WHATEVER THE INPUT: true; the input reads as it did. -/
def ringPlaysSpec : ChangeSpec := { name := "ringPlays", fn := fun _ => fun
  | [d1, d2] => { results := [.lit (.bool true)], args := [d1, d2] }
  | _ => none }
def ringPlaysRow : OpenClaim := { program := "ytobeonkddamnoaadoor", sum := "daeb457e49526f21dac75fe1370199b3a7ff2537ee7d070440b808aa7817dd1c", func := "quitrent/quitrentlaw09.RingPlays", spec := "ringPlays", inPlace := ["sync/atomic.AddUint64", "sync/atomic.LoadUint64"], unfollowed := true, recurses := true, named := ["quitrent/tag.none"], apart := false, laid := [("quitrent/tag.none", laid_quitrent_tag_none)] }
def RingPlaysSaid : Prop := ringPlaysRow.holds Tryd.pinned (OpenSpec.ofChange ringPlaysSpec)

/-- ITS FALSE NEIGHBOUR: 'it returns false'. Refute it at one input. -/
def ringPlaysWrong : ChangeSpec := { name := "ringPlays", fn := fun _ => fun
  | [d1, d2] => { results := [.lit (.bool false)], args := [d1, d2] }
  | _ => none }
def RingPlaysWrongFalsely : Prop := ringPlaysRow.holds Tryd.pinned (OpenSpec.ofChange ringPlaysWrong)

/-- 'quitrentlaw12.CountAlone': WHATEVER THE INPUT: true; the input reads as it did. -/
def countAloneSpec : ChangeSpec := { name := "countAlone", fn := fun _ => fun
  | [d1, d2, d3, d4] => { results := [.lit (.bool true)], args := [d1, d2, d3, d4] }
  | _ => none }
def countAloneRow : OpenClaim := { program := "ytobeonkddamnoaadoor", sum := "daeb457e49526f21dac75fe1370199b3a7ff2537ee7d070440b808aa7817dd1c", func := "quitrent/quitrentlaw12.CountAlone", spec := "countAlone", inPlace := ["sync/atomic.AddUint64"], unfollowed := true, recurses := true, named := ["quitrent/tag.none"], apart := false, laid := [("quitrent/tag.none", laid_quitrent_tag_none)] }
def CountAloneSaid : Prop := countAloneRow.holds Tryd.pinned (OpenSpec.ofChange countAloneSpec)

/-- ITS FALSE NEIGHBOUR: 'it returns false'. Refute it at one input. -/
def countAloneWrong : ChangeSpec := { name := "countAlone", fn := fun _ => fun
  | [d1, d2, d3, d4] => { results := [.lit (.bool false)], args := [d1, d2, d3, d4] }
  | _ => none }
def CountAloneWrongFalsely : Prop := countAloneRow.holds Tryd.pinned (OpenSpec.ofChange countAloneWrong)

/-- 'quitrentlaw12.CountNobody': WHATEVER THE INPUT: true; the input reads as it did. -/
def countNobodySpec : ChangeSpec := { name := "countNobody", fn := fun _ => fun
  | [d] => { results := [.lit (.bool true)], args := [d] }
  | _ => none }
def countNobodyRow : OpenClaim := { program := "ytobeonkddamnoaadoor", sum := "daeb457e49526f21dac75fe1370199b3a7ff2537ee7d070440b808aa7817dd1c", func := "quitrent/quitrentlaw12.CountNobody", spec := "countNobody", inPlace := ["sync/atomic.AddUint64"], unfollowed := true, recurses := true, named := ["quitrent/tag.none"], apart := false, laid := [("quitrent/tag.none", laid_quitrent_tag_none)] }
def CountNobodySaid : Prop := countNobodyRow.holds Tryd.pinned (OpenSpec.ofChange countNobodySpec)

/-- ITS FALSE NEIGHBOUR: 'it returns false'. Refute it at one input. -/
def countNobodyWrong : ChangeSpec := { name := "countNobody", fn := fun _ => fun
  | [d] => { results := [.lit (.bool false)], args := [d] }
  | _ => none }
def CountNobodyWrongFalsely : Prop := countNobodyRow.holds Tryd.pinned (OpenSpec.ofChange countNobodyWrong)

/-- 'quitrentlaw11.ObjWhole': WHATEVER THE INPUT: true; the input reads as it did. -/
def objWholeSpec : ChangeSpec := { name := "objWhole", fn := fun _ => fun
  | [d1, d2, d3] => { results := [.lit (.bool true)], args := [d1, d2, d3] }
  | _ => none }
def objWholeRow : OpenClaim := { program := "ytobeonkddamnoaadoor", sum := "daeb457e49526f21dac75fe1370199b3a7ff2537ee7d070440b808aa7817dd1c", func := "quitrent/quitrentlaw11.ObjWhole", spec := "objWhole", inPlace := ["sync/atomic.AddUint64"], unfollowed := true, recurses := true, named := ["quitrent/tag.none"], apart := false, laid := [("quitrent/tag.none", laid_quitrent_tag_none)] }
def ObjWholeSaid : Prop := objWholeRow.holds Tryd.pinned (OpenSpec.ofChange objWholeSpec)

/-- ITS FALSE NEIGHBOUR: 'it returns false'. Refute it at one input. -/
def objWholeWrong : ChangeSpec := { name := "objWhole", fn := fun _ => fun
  | [d1, d2, d3] => { results := [.lit (.bool false)], args := [d1, d2, d3] }
  | _ => none }
def ObjWholeWrongFalsely : Prop := objWholeRow.holds Tryd.pinned (OpenSpec.ofChange objWholeWrong)

/-- 'quitrentlaw13.TintIdle': WHATEVER THE INPUT: true; the input reads as it did. -/
def tintIdleSpec : ChangeSpec := { name := "tintIdle", fn := fun _ => fun
  | [d1, d2] => { results := [.lit (.bool true)], args := [d1, d2] }
  | _ => none }
def tintIdleRow : OpenClaim := { program := "ytobeonkddamnoaadoor", sum := "daeb457e49526f21dac75fe1370199b3a7ff2537ee7d070440b808aa7817dd1c", func := "quitrent/quitrentlaw13.TintIdle", spec := "tintIdle", inPlace := ["sync/atomic.AddUint64"], unfollowed := true, recurses := true, named := ["quitrent/tag.none"], apart := false, laid := [("quitrent/tag.none", laid_quitrent_tag_none)] }
def TintIdleSaid : Prop := tintIdleRow.holds Tryd.pinned (OpenSpec.ofChange tintIdleSpec)

/-- ITS FALSE NEIGHBOUR: 'it returns false'. Refute it at one input. -/
def tintIdleWrong : ChangeSpec := { name := "tintIdle", fn := fun _ => fun
  | [d1, d2] => { results := [.lit (.bool false)], args := [d1, d2] }
  | _ => none }
def TintIdleWrongFalsely : Prop := tintIdleRow.holds Tryd.pinned (OpenSpec.ofChange tintIdleWrong)

/-- 'quitrentlaw11.ObjApart': WHATEVER THE INPUT: true; the input reads as it did. -/
def objApartSpec : ChangeSpec := { name := "objApart", fn := fun _ => fun
  | [d1, d2, d3, d4, d5] => { results := [.lit (.bool true)], args := [d1, d2, d3, d4, d5] }
  | _ => none }
def objApartRow : OpenClaim := { program := "ytobeonkddamnoaadoor", sum := "daeb457e49526f21dac75fe1370199b3a7ff2537ee7d070440b808aa7817dd1c", func := "quitrent/quitrentlaw11.ObjApart", spec := "objApart", inPlace := ["sync/atomic.AddUint64"], unfollowed := true, recurses := true, named := ["quitrent/tag.none"], apart := false, laid := [("quitrent/tag.none", laid_quitrent_tag_none)] }
def ObjApartSaid : Prop := objApartRow.holds Tryd.pinned (OpenSpec.ofChange objApartSpec)

/-- ITS FALSE NEIGHBOUR: 'it returns false'. Refute it at one input. -/
def objApartWrong : ChangeSpec := { name := "objApart", fn := fun _ => fun
  | [d1, d2, d3, d4, d5] => { results := [.lit (.bool false)], args := [d1, d2, d3, d4, d5] }
  | _ => none }
def ObjApartWrongFalsely : Prop := objApartRow.holds Tryd.pinned (OpenSpec.ofChange objApartWrong)

/-- 'quitrentlaw11.ObjNobody': WHATEVER THE INPUT: true; the input reads as it did. -/
def objNobodySpec : ChangeSpec := { name := "objNobody", fn := fun _ => fun
  | [d1, d2, d3] => { results := [.lit (.bool true)], args := [d1, d2, d3] }
  | _ => none }
def objNobodyRow : OpenClaim := { program := "ytobeonkddamnoaadoor", sum := "daeb457e49526f21dac75fe1370199b3a7ff2537ee7d070440b808aa7817dd1c", func := "quitrent/quitrentlaw11.ObjNobody", spec := "objNobody", inPlace := ["sync/atomic.AddUint64"], unfollowed := true, recurses := true, named := ["quitrent/tag.none"], apart := false, laid := [("quitrent/tag.none", laid_quitrent_tag_none)] }
def ObjNobodySaid : Prop := objNobodyRow.holds Tryd.pinned (OpenSpec.ofChange objNobodySpec)

/-- ITS FALSE NEIGHBOUR: 'it returns false'. Refute it at one input. -/
def objNobodyWrong : ChangeSpec := { name := "objNobody", fn := fun _ => fun
  | [d1, d2, d3] => { results := [.lit (.bool false)], args := [d1, d2, d3] }
  | _ => none }
def ObjNobodyWrongFalsely : Prop := objNobodyRow.holds Tryd.pinned (OpenSpec.ofChange objNobodyWrong)

/-- 'quitrenttop.WholeRows': WHATEVER THE INPUT: true; the input reads as it did. -/
def wholeRowsSpec : ChangeSpec := { name := "wholeRows", fn := fun _ => fun
  | [d1, d2, d3] => { results := [.lit (.bool true)], args := [d1, d2, d3] }
  | _ => none }
def wholeRowsRow : OpenClaim := { program := "ytobeonkddamnoaadoor", sum := "daeb457e49526f21dac75fe1370199b3a7ff2537ee7d070440b808aa7817dd1c", func := "quitrent/quitrenttop.WholeRows", spec := "wholeRows", inPlace := ["sync/atomic.AddUint64"], unfollowed := true, recurses := true, named := ["quitrent/tag.none"], apart := false, laid := [("quitrent/tag.none", laid_quitrent_tag_none)] }
def WholeRowsSaid : Prop := wholeRowsRow.holds Tryd.pinned (OpenSpec.ofChange wholeRowsSpec)

/-- ITS FALSE NEIGHBOUR: 'it returns false'. Refute it at one input. -/
def wholeRowsWrong : ChangeSpec := { name := "wholeRows", fn := fun _ => fun
  | [d1, d2, d3] => { results := [.lit (.bool false)], args := [d1, d2, d3] }
  | _ => none }
def WholeRowsWrongFalsely : Prop := wholeRowsRow.holds Tryd.pinned (OpenSpec.ofChange wholeRowsWrong)

/- THE SECOND FORM. 'bulk': how many values and letters a reading holds, each counted each time it is reached (what is shared counts as often as it is met; a slice's spare places count too). A statement '..UptoSaid' is the law's where the arguments, and the package variables that the reading takes, are together of bulk at most 1048576: NARROWER than '..Said'. Prove '..Said' where nothing that the law and all that it calls make is longer than what came in: it says more and counts as full. Else prove '..UptoSaid'. A law counts once. -/
mutual
def uptoBulk {H : Type} : DataW H → Nat
  | .lit (.string bytes) => bytes.length + 1
  | .lit _ => 1
  | .nil => 1
  | .ptr d => uptoBulk d + 1
  | .slice elems spare => uptoBulkAll elems + uptoBulkAll spare + 1
  | .agg parts => uptoBulkAll parts + 1
  | .iface _ d => uptoBulk d + 1
  | .map entries => uptoBulkEntries entries + 1
  | .held _ => 1
def uptoBulkAll {H : Type} : List (DataW H) → Nat
  | [] => 0
  | d :: r => uptoBulk d + uptoBulkAll r
def uptoBulkEntries {H : Type} : List (Lit × DataW H) → Nat
  | [] => 0
  | x :: r => uptoBulkEntry x + uptoBulkEntries r
def uptoBulkEntry {H : Type} : Lit × DataW H → Nat
  | (.string bytes, d) => bytes.length + uptoBulk d + 1
  | (_, d) => uptoBulk d + 1
 end
def uptoSmall : (H : Type) → List (DataW H) → Bool := fun _ ds => decide (uptoBulkAll ds ≤ 1048576)
def OpenSpec.upto (s : _root_.Go.ChangeSpec) : _root_.Go.OpenSpec := { _root_.Go.OpenSpec.ofChange s with cond := some uptoSmall }

/-- 'quitrenttop.WholeTags', WHERE WHAT IT READS IS OF BULK AT MOST 1048576: true; the input reads as it did. -/
def wholeTagsUptoRow : OpenClaim := { program := "ytobeonkddamnoaadoor", sum := "daeb457e49526f21dac75fe1370199b3a7ff2537ee7d070440b808aa7817dd1c", func := "quitrent/quitrenttop.WholeTags", spec := "wholeTags", inPlace := ["sync/atomic.AddUint64"], unfollowed := true, recurses := true, named := ["quitrent/tag.none"], apart := false, laid := [("quitrent/tag.none", laid_quitrent_tag_none)], narrowed := true }
def WholeTagsUptoSaid : Prop := wholeTagsUptoRow.holds Tryd.pinned (OpenSpec.upto wholeTagsSpec)

/-- 'quitrentlaw09.RingOrder', WHERE WHAT IT READS IS OF BULK AT MOST 1048576: true; the input reads as it did. -/
def ringOrderUptoRow : OpenClaim := { program := "ytobeonkddamnoaadoor", sum := "daeb457e49526f21dac75fe1370199b3a7ff2537ee7d070440b808aa7817dd1c", func := "quitrent/quitrentlaw09.RingOrder", spec := "ringOrder", inPlace := ["sync/atomic.AddUint64"], unfollowed := true, recurses := true, named := ["quitrent/tag.none"], apart := false, laid := [("quitrent/tag.none", laid_quitrent_tag_none)], narrowed := true }
def RingOrderUptoSaid : Prop := ringOrderUptoRow.holds Tryd.pinned (OpenSpec.upto ringOrderSpec)

/-- 'quitrentlaw09.RingNobody', WHERE WHAT IT READS IS OF BULK AT MOST 1048576: true; the input reads as it did. -/
def ringNobodyUptoRow : OpenClaim := { program := "ytobeonkddamnoaadoor", sum := "daeb457e49526f21dac75fe1370199b3a7ff2537ee7d070440b808aa7817dd1c", func := "quitrent/quitrentlaw09.RingNobody", spec := "ringNobody", inPlace := ["sync/atomic.AddUint64"], unfollowed := true, recurses := true, named := ["quitrent/tag.none"], apart := false, laid := [("quitrent/tag.none", laid_quitrent_tag_none)], narrowed := true }
def RingNobodyUptoSaid : Prop := ringNobodyUptoRow.holds Tryd.pinned (OpenSpec.upto ringNobodySpec)

/-- 'quitrentlaw09.RingPlays', WHERE WHAT IT READS IS OF BULK AT MOST 1048576: true; the input reads as it did. -/
def ringPlaysUptoRow : OpenClaim := { program := "ytobeonkddamnoaadoor", sum := "daeb457e49526f21dac75fe1370199b3a7ff2537ee7d070440b808aa7817dd1c", func := "quitrent/quitrentlaw09.RingPlays", spec := "ringPlays", inPlace := ["sync/atomic.AddUint64", "sync/atomic.LoadUint64"], unfollowed := true, recurses := true, named := ["quitrent/tag.none"], apart := false, laid := [("quitrent/tag.none", laid_quitrent_tag_none)], narrowed := true }
def RingPlaysUptoSaid : Prop := ringPlaysUptoRow.holds Tryd.pinned (OpenSpec.upto ringPlaysSpec)

/-- 'quitrentlaw12.CountAlone', WHERE WHAT IT READS IS OF BULK AT MOST 1048576: true; the input reads as it did. -/
def countAloneUptoRow : OpenClaim := { program := "ytobeonkddamnoaadoor", sum := "daeb457e49526f21dac75fe1370199b3a7ff2537ee7d070440b808aa7817dd1c", func := "quitrent/quitrentlaw12.CountAlone", spec := "countAlone", inPlace := ["sync/atomic.AddUint64"], unfollowed := true, recurses := true, named := ["quitrent/tag.none"], apart := false, laid := [("quitrent/tag.none", laid_quitrent_tag_none)], narrowed := true }
def CountAloneUptoSaid : Prop := countAloneUptoRow.holds Tryd.pinned (OpenSpec.upto countAloneSpec)

/-- 'quitrentlaw12.CountNobody', WHERE WHAT IT READS IS OF BULK AT MOST 1048576: true; the input reads as it did. -/
def countNobodyUptoRow : OpenClaim := { program := "ytobeonkddamnoaadoor", sum := "daeb457e49526f21dac75fe1370199b3a7ff2537ee7d070440b808aa7817dd1c", func := "quitrent/quitrentlaw12.CountNobody", spec := "countNobody", inPlace := ["sync/atomic.AddUint64"], unfollowed := true, recurses := true, named := ["quitrent/tag.none"], apart := false, laid := [("quitrent/tag.none", laid_quitrent_tag_none)], narrowed := true }
def CountNobodyUptoSaid : Prop := countNobodyUptoRow.holds Tryd.pinned (OpenSpec.upto countNobodySpec)

/-- 'quitrentlaw11.ObjWhole', WHERE WHAT IT READS IS OF BULK AT MOST 1048576: true; the input reads as it did. -/
def objWholeUptoRow : OpenClaim := { program := "ytobeonkddamnoaadoor", sum := "daeb457e49526f21dac75fe1370199b3a7ff2537ee7d070440b808aa7817dd1c", func := "quitrent/quitrentlaw11.ObjWhole", spec := "objWhole", inPlace := ["sync/atomic.AddUint64"], unfollowed := true, recurses := true, named := ["quitrent/tag.none"], apart := false, laid := [("quitrent/tag.none", laid_quitrent_tag_none)], narrowed := true }
def ObjWholeUptoSaid : Prop := objWholeUptoRow.holds Tryd.pinned (OpenSpec.upto objWholeSpec)

/-- 'quitrentlaw13.TintIdle', WHERE WHAT IT READS IS OF BULK AT MOST 1048576: true; the input reads as it did. -/
def tintIdleUptoRow : OpenClaim := { program := "ytobeonkddamnoaadoor", sum := "daeb457e49526f21dac75fe1370199b3a7ff2537ee7d070440b808aa7817dd1c", func := "quitrent/quitrentlaw13.TintIdle", spec := "tintIdle", inPlace := ["sync/atomic.AddUint64"], unfollowed := true, recurses := true, named := ["quitrent/tag.none"], apart := false, laid := [("quitrent/tag.none", laid_quitrent_tag_none)], narrowed := true }
def TintIdleUptoSaid : Prop := tintIdleUptoRow.holds Tryd.pinned (OpenSpec.upto tintIdleSpec)

/-- 'quitrentlaw11.ObjApart', WHERE WHAT IT READS IS OF BULK AT MOST 1048576: true; the input reads as it did. -/
def objApartUptoRow : OpenClaim := { program := "ytobeonkddamnoaadoor", sum := "daeb457e49526f21dac75fe1370199b3a7ff2537ee7d070440b808aa7817dd1c", func := "quitrent/quitrentlaw11.ObjApart", spec := "objApart", inPlace := ["sync/atomic.AddUint64"], unfollowed := true, recurses := true, named := ["quitrent/tag.none"], apart := false, laid := [("quitrent/tag.none", laid_quitrent_tag_none)], narrowed := true }
def ObjApartUptoSaid : Prop := objApartUptoRow.holds Tryd.pinned (OpenSpec.upto objApartSpec)

/-- 'quitrentlaw11.ObjNobody', WHERE WHAT IT READS IS OF BULK AT MOST 1048576: true; the input reads as it did. -/
def objNobodyUptoRow : OpenClaim := { program := "ytobeonkddamnoaadoor", sum := "daeb457e49526f21dac75fe1370199b3a7ff2537ee7d070440b808aa7817dd1c", func := "quitrent/quitrentlaw11.ObjNobody", spec := "objNobody", inPlace := ["sync/atomic.AddUint64"], unfollowed := true, recurses := true, named := ["quitrent/tag.none"], apart := false, laid := [("quitrent/tag.none", laid_quitrent_tag_none)], narrowed := true }
def ObjNobodyUptoSaid : Prop := objNobodyUptoRow.holds Tryd.pinned (OpenSpec.upto objNobodySpec)

/-- 'quitrenttop.WholeRows', WHERE WHAT IT READS IS OF BULK AT MOST 1048576: true; the input reads as it did. -/
def wholeRowsUptoRow : OpenClaim := { program := "ytobeonkddamnoaadoor", sum := "daeb457e49526f21dac75fe1370199b3a7ff2537ee7d070440b808aa7817dd1c", func := "quitrent/quitrenttop.WholeRows", spec := "wholeRows", inPlace := ["sync/atomic.AddUint64"], unfollowed := true, recurses := true, named := ["quitrent/tag.none"], apart := false, laid := [("quitrent/tag.none", laid_quitrent_tag_none)], narrowed := true }
def WholeRowsUptoSaid : Prop := wholeRowsUptoRow.holds Tryd.pinned (OpenSpec.upto wholeRowsSpec)

end Rows
end Go.Proofs.YtobeonkddamnoaaDoor
