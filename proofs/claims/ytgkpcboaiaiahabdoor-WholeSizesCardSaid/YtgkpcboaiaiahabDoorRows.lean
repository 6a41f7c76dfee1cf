/-
  NARROWER THAN 'FOR EVERY INPUT', by the rows' own cells (each row's printed sentence says how): TagPacks: laid · TagNames: laid · WholeSizes: laid · TagUnpacks: laid · TagBack: laid.
  DERIVED. THE GIVEN ROWS OF THIS SEAT. 5 by the template 'for every input the law returns true; each argument reads behind the call as it read before'; 0 by the template 'total and deterministic' (their statements: YtgkpcboaiaiahabDoorTotals.lean).
  GIVEN WITH THE SEED: the statements are not yours to turn. If you find one false, say at which input.
  Laid BY PROGRAM, IN A SANDBOX (cutbox-rows.mjs): the forced cells as the released guide's own fill.sh prints them over the translation 631b10a5ff940070… (all of the seat's roots in one cut). By AI agents, Wed Nov 11 2026. No macro, syntax, notation, axiom, sorry.
-/
import Derived.Test.YtgkpcboaiaiahabDoorChecked
import GoSem.Claim
import GoSem.ClaimJoined
import GoSem.ClaimMapViews
import Derived.JoinedTies
import Derived.KernelRfl
namespace Go.Proofs.YtgkpcboaiaiahabDoor
/- THE CELL 'sum', in the pinned program and in every row, IS THE sha256 OF THE DUMP (.gsa) THAT YtgkpcboaiaiahabDoorProg.lean LOADS. Nothing in Lean hashes anything: it is a label: what it is worth is what the hold of that sum in a sandbox is worth. -/
noncomputable def Tryd.pinned : Pinned := { name := "ytgkpcboaiaiahabdoor", sum := "631b10a5ff9400706e9d2c598f6969bef907519d21e53dbaae8952f5bd6277d1", checked := Tryd.checked }
namespace Rows
def none {H : Type} : Left H := { results := [], args := [] }

/- WHAT THE LISTED PACKAGE-LEVEL VARIABLES READ AS WHEN THE CALL BEGINS. Each datum BY PROGRAM (the guide's laid-datum.mjs) off the statement by which the dump's own 'gosem.cut.vars' lays the variable. In a bare row this is a premise. The card (YtgkpcboaiaiahabDoorCards.lean) ties it to the program's text. -/
def laid_quitrent_tag_none {H : Type} : DataW H := .agg [.lit (.int .i64 0), .lit (.int .i64 0), .lit (.int .i64 0), .lit (.int .i64 0), .lit (.int .i64 0)]
def laid_quitrent_tag_names {H : Type} : DataW H := .agg [.lit (.string [102, 114, 101, 101]), .lit (.string [115, 109, 97, 108, 108]), .lit (.string [115, 112, 105, 110, 101]), .lit (.string [108, 101, 97, 102])]

/-- 'quitrentlaw06.TagPacks': WHATEVER THE INPUT: true; the input reads as it did. -/
def tagPacksSpec : ChangeSpec := { name := "tagPacks", fn := fun _ => fun
  | [d] => { results := [.lit (.bool true)], args := [d] }
  | _ => none }
def tagPacksRow : OpenClaim := { program := "ytgkpcboaiaiahabdoor", sum := "631b10a5ff9400706e9d2c598f6969bef907519d21e53dbaae8952f5bd6277d1", func := "quitrent/quitrentlaw06.TagPacks", spec := "tagPacks", named := ["quitrent/tag.none", "quitrent/tag.names"], apart := false, laid := [("quitrent/tag.none", laid_quitrent_tag_none), ("quitrent/tag.names", laid_quitrent_tag_names)] }
def TagPacksSaid : Prop := tagPacksRow.holds Tryd.pinned (OpenSpec.ofChange tagPacksSpec)

/-- ITS FALSE NEIGHBOUR: 'it returns false'. Refute it at one input. -/
def tagPacksWrong : ChangeSpec := { name := "tagPacks", fn := fun _ => fun
  | [d] => { results := [.lit (.bool false)], args := [d] }
  | _ => none }
def TagPacksWrongFalsely : Prop := tagPacksRow.holds Tryd.pinned (OpenSpec.ofChange tagPacksWrong)

/-- 'quitrentlaw06.TagNames': WHATEVER THE INPUT: true; the input reads as it did. -/
def tagNamesSpec : ChangeSpec := { name := "tagNames", fn := fun _ => fun
  | [d1, d2] => { results := [.lit (.bool true)], args := [d1, d2] }
  | _ => none }
def tagNamesRow : OpenClaim := { program := "ytgkpcboaiaiahabdoor", sum := "631b10a5ff9400706e9d2c598f6969bef907519d21e53dbaae8952f5bd6277d1", func := "quitrent/quitrentlaw06.TagNames", spec := "tagNames", named := ["quitrent/tag.names", "quitrent/tag.none"], apart := false, laid := [("quitrent/tag.none", laid_quitrent_tag_none), ("quitrent/tag.names", laid_quitrent_tag_names)] }
def TagNamesSaid : Prop := tagNamesRow.holds Tryd.pinned (OpenSpec.ofChange tagNamesSpec)

/-- ITS FALSE NEIGHBOUR: 'it returns false'. Refute it at one input. -/
def tagNamesWrong : ChangeSpec := { name := "tagNames", fn := fun _ => fun
  | [d1, d2] => { results := [.lit (.bool false)], args := [d1, d2] }
  | _ => none }
def TagNamesWrongFalsely : Prop := tagNamesRow.holds Tryd.pinned (OpenSpec.ofChange tagNamesWrong)

/-- 'quitrenttop.WholeSizes': WHATEVER THE INPUT: true; the input reads as it did. -/
def wholeSizesSpec : ChangeSpec := { name := "wholeSizes", fn := fun _ => fun
  | [d1, d2] => { results := [.lit (.bool true)], args := [d1, d2] }
  | _ => none }
def wholeSizesRow : OpenClaim := { program := "ytgkpcboaiaiahabdoor", sum := "631b10a5ff9400706e9d2c598f6969bef907519d21e53dbaae8952f5bd6277d1", func := "quitrent/quitrenttop.WholeSizes", spec := "wholeSizes", unfollowed := true, recurses := true, named := ["quitrent/tag.none"], apart := false, laid := [("quitrent/tag.none", laid_quitrent_tag_none)] }
def WholeSizesSaid : Prop := wholeSizesRow.holds Tryd.pinned (OpenSpec.ofChange wholeSizesSpec)

/-- ITS FALSE NEIGHBOUR: 'it returns false'. Refute it at one input. -/
def wholeSizesWrong : ChangeSpec := { name := "wholeSizes", fn := fun _ => fun
  | [d1, d2] => { results := [.lit (.bool false)], args := [d1, d2] }
  | _ => none }
def WholeSizesWrongFalsely : Prop := wholeSizesRow.holds Tryd.pinned (OpenSpec.ofChange wholeSizesWrong)

/-- 'quitrentlaw06.TagUnpacks': WHATEVER THE INPUT: true; the input reads as it did. -/
def tagUnpacksSpec : ChangeSpec := { name := "tagUnpacks", fn := fun _ => fun
  | [d] => { results := [.lit (.bool true)], args := [d] }
  | _ => none }
def tagUnpacksRow : OpenClaim := { program := "ytgkpcboaiaiahabdoor", sum := "631b10a5ff9400706e9d2c598f6969bef907519d21e53dbaae8952f5bd6277d1", func := "quitrent/quitrentlaw06.TagUnpacks", spec := "tagUnpacks", unfollowed := true, recurses := true, named := ["quitrent/tag.none", "quitrent/tag.names"], apart := false, laid := [("quitrent/tag.none", laid_quitrent_tag_none), ("quitrent/tag.names", laid_quitrent_tag_names)] }
def TagUnpacksSaid : Prop := tagUnpacksRow.holds Tryd.pinned (OpenSpec.ofChange tagUnpacksSpec)

/-- ITS FALSE NEIGHBOUR: 'it returns false'. Refute it at one input. -/
def tagUnpacksWrong : ChangeSpec := { name := "tagUnpacks", fn := fun _ => fun
  | [d] => { results := [.lit (.bool false)], args := [d] }
  | _ => none }
def TagUnpacksWrongFalsely : Prop := tagUnpacksRow.holds Tryd.pinned (OpenSpec.ofChange tagUnpacksWrong)

/-- 'quitrentlaw06.TagBack': WHATEVER THE INPUT: true; the input reads as it did. -/
def tagBackSpec : ChangeSpec := { name := "tagBack", fn := fun _ => fun
  | [d1, d2] => { results := [.lit (.bool true)], args := [d1, d2] }
  | _ => none }
def tagBackRow : OpenClaim := { program := "ytgkpcboaiaiahabdoor", sum := "631b10a5ff9400706e9d2c598f6969bef907519d21e53dbaae8952f5bd6277d1", func := "quitrent/quitrentlaw06.TagBack", spec := "tagBack", unfollowed := true, recurses := true, named := ["quitrent/tag.none", "quitrent/tag.names"], apart := false, laid := [("quitrent/tag.none", laid_quitrent_tag_none), ("quitrent/tag.names", laid_quitrent_tag_names)] }
def TagBackSaid : Prop := tagBackRow.holds Tryd.pinned (OpenSpec.ofChange tagBackSpec)

/-- ITS FALSE NEIGHBOUR: 'it returns false'. Refute it at one input. -/
def tagBackWrong : ChangeSpec := { name := "tagBack", fn := fun _ => fun
  | [d1, d2] => { results := [.lit (.bool false)], args := [d1, d2] }
  | _ => none }
def TagBackWrongFalsely : Prop := tagBackRow.holds Tryd.pinned (OpenSpec.ofChange tagBackWrong)

/- THE SECOND FORM. 'bulk': how many values and letters a reading holds, each counted each time it is reached (what is shared counts as often as it is met; a slice's spare places count too). A statement '..UptoSaid' is the law's where the arguments, and the package variables that the reading takes, are together of bulk at most 1048576: NARROWER than '..Said'. Prove '..Said' where nothing that the law and all that it calls make is longer than what came in: it says more and counts as full. Else prove '..UptoSaid'. A law counts once. -/
mutual
def uptoBulk {H : Type} : DataW H → Nat
  | .lit (.string bytes) => bytes.length + 1
  | .lit _ => 1
  | .nil => 1
  | .ptr d => uptoBulk d + 1
  | .slice elems spare => uptoBulkAll elems + uptoBulkAll spare + 1
  | .agg parts => uptoBulkAll parts + 1
  | .iface _ d => uptoBulk d + 1
  | .map entries => uptoBulkEntries entries + 1
  | .held _ => 1
def uptoBulkAll {H : Type} : List (DataW H) → Nat
  | [] => 0
  | d :: r => uptoBulk d + uptoBulkAll r
def uptoBulkEntries {H : Type} : List (Lit × DataW H) → Nat
  | [] => 0
  | x :: r => uptoBulkEntry x + uptoBulkEntries r
def uptoBulkEntry {H : Type} : Lit × DataW H → Nat
  | (.string bytes, d) => bytes.length + uptoBulk d + 1
  | (_, d) => uptoBulk d + 1
 end
def uptoSmall : (H : Type) → List (DataW H) → Bool := fun _ ds => decide (uptoBulkAll ds ≤ 1048576)
def OpenSpec.upto (s : _root_.Go.ChangeSpec) : _root_.Go.OpenSpec := { _root_.Go.OpenSpec.ofChange s with cond := some uptoSmall }

/-- 'quitrentlaw06.TagPacks', WHERE WHAT IT READS IS OF BULK AT MOST 1048576: true; the input reads as it did. -/
def tagPacksUptoRow : OpenClaim := { program := "ytgkpcboaiaiahabdoor", sum := "631b10a5ff9400706e9d2c598f6969bef907519d21e53dbaae8952f5bd6277d1", func := "quitrent/quitrentlaw06.TagPacks", spec := "tagPacks", named := ["quitrent/tag.none", "quitrent/tag.names"], apart := false, laid := [("quitrent/tag.none", laid_quitrent_tag_none), ("quitrent/tag.names", laid_quitrent_tag_names)], narrowed := true }
def TagPacksUptoSaid : Prop := tagPacksUptoRow.holds Tryd.pinned (OpenSpec.upto tagPacksSpec)

/-- 'quitrentlaw06.TagNames', WHERE WHAT IT READS IS OF BULK AT MOST 1048576: true; the input reads as it did. -/
def tagNamesUptoRow : OpenClaim := { program := "ytgkpcboaiaiahabdoor", sum := "631b10a5ff9400706e9d2c598f6969bef907519d21e53dbaae8952f5bd6277d1", func := "quitrent/quitrentlaw06.TagNames", spec := "tagNames", named := ["quitrent/tag.names", "quitrent/tag.none"], apart := false, laid := [("quitrent/tag.none", laid_quitrent_tag_none), ("quitrent/tag.names", laid_quitrent_tag_names)], narrowed := true }
def TagNamesUptoSaid : Prop := tagNamesUptoRow.holds Tryd.pinned (OpenSpec.upto tagNamesSpec)

/-- 'quitrenttop.WholeSizes', WHERE WHAT IT READS IS OF BULK AT MOST 1048576: true; the input reads as it did. -/
def wholeSizesUptoRow : OpenClaim := { program := "ytgkpcboaiaiahabdoor", sum := "631b10a5ff9400706e9d2c598f6969bef907519d21e53dbaae8952f5bd6277d1", func := "quitrent/quitrenttop.WholeSizes", spec := "wholeSizes", unfollowed := true, recurses := true, named := ["quitrent/tag.none"], apart := false, laid := [("quitrent/tag.none", laid_quitrent_tag_none)], narrowed := true }
def WholeSizesUptoSaid : Prop := wholeSizesUptoRow.holds Tryd.pinned (OpenSpec.upto wholeSizesSpec)

/-- 'quitrentlaw06.TagUnpacks', WHERE WHAT IT READS IS OF BULK AT MOST 1048576: true; the input reads as it did. -/
def tagUnpacksUptoRow : OpenClaim := { program := "ytgkpcboaiaiahabdoor", sum := "631b10a5ff9400706e9d2c598f6969bef907519d21e53dbaae8952f5bd6277d1", func := "quitrent/quitrentlaw06.TagUnpacks", spec := "tagUnpacks", unfollowed := true, recurses := true, named := ["quitrent/tag.none", "quitrent/tag.names"], apart := false, laid := [("quitrent/tag.none", laid_quitrent_tag_none), ("quitrent/tag.names", laid_quitrent_tag_names)], narrowed := true }
def TagUnpacksUptoSaid : Prop := tagUnpacksUptoRow.holds Tryd.pinned (OpenSpec.upto tagUnpacksSpec)

/-- 'quitrentlaw06.TagBack', WHERE WHAT IT READS IS OF BULK AT MOST 1048576: true; the input reads as it did. -/
def tagBackUptoRow : OpenClaim := { program := "ytgkpcboaiaiahabdoor", sum := "631b10a5ff9400706e9d2c598f6969bef907519d21e53dbaae8952f5bd6277d1", func := "quitrent/quitrentlaw06.TagBack", spec := "tagBack", unfollowed := true, recurses := true, named := ["quitrent/tag.none", "quitrent/tag.names"], apart := false, laid := [("quitrent/tag.none", laid_quitrent_tag_none), ("quitrent/tag.names", laid_quitrent_tag_names)], narrowed := true }
def TagBackUptoSaid : Prop := tagBackUptoRow.holds Tryd.pinned (OpenSpec.upto tagBackSpec)

end Rows
end Go.Proofs.YtgkpcboaiaiahabDoor
