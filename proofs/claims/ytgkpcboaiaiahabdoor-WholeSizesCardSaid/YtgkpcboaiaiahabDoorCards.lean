/-
  DERIVED. GIVEN WITH THE SEED: THE CARDS: each row of YtgkpcboaiaiahabDoorRows.lean that lists a variable, with what it lists TIED to the program's text (the seventh form; the later family's looks); each row that meets fmt, with fmt's text TOLD by the authors' own Lean function (tested against real Go, not proved from fmt's source: count such statements apart). THE CARD IS WHAT COUNTS. Prove the row's statement (the work); the ties are given (YtgkpcboaiaiahabDoorTie.lean); close each card by the builder's one call (the guide's Derived/Test/ToyasCard.lean, 'card_holds'). Laid BY PROGRAM, IN A SANDBOX (cutbox-door.mjs). By AI agents, Wed Nov 11 2026. No macro, syntax, notation, axiom, sorry.
-/
import Derived.Test.YtgkpcboaiaiahabDoorRows
import GoSem.ClaimSeven
namespace Go.Proofs.YtgkpcboaiaiahabDoor
namespace Rows

/-- THE TIED CARD OF 'quitrentlaw06.TagPacks'. -/
def tagPacksCard : Claim7 := { stood := { row := tagPacksRow, standIns := [], harness := (true, "7296b3c964b63316eb364041b9578a7719d2236b64f904f10706583f1ccd9399"), looks := false }, kinds := [], alts := [], laidByText := true, laidKinds := [.data, .data], laidTests := true, laidLooks := .later }
def TagPacksCardSaid : Prop := Claim7.holds Tryd.pinned (.plain (OpenSpec.ofChange tagPacksSpec)) tagPacksCard

/-- THE TIED CARD OF 'quitrentlaw06.TagNames'. -/
def tagNamesCard : Claim7 := { stood := { row := tagNamesRow, standIns := [], harness := (true, "7296b3c964b63316eb364041b9578a7719d2236b64f904f10706583f1ccd9399"), looks := false }, kinds := [], alts := [], laidByText := true, laidKinds := [.data, .data], laidTests := true, laidLooks := .later }
def TagNamesCardSaid : Prop := Claim7.holds Tryd.pinned (.plain (OpenSpec.ofChange tagNamesSpec)) tagNamesCard

/-- THE TIED CARD OF 'quitrenttop.WholeSizes'. -/
def wholeSizesCard : Claim7 := { stood := { row := wholeSizesRow, standIns := [], harness := (true, "7296b3c964b63316eb364041b9578a7719d2236b64f904f10706583f1ccd9399"), looks := false }, kinds := [], alts := [], laidByText := true, laidKinds := [.data], laidTests := true, laidLooks := .later }
def WholeSizesCardSaid : Prop := Claim7.holds Tryd.pinned (.plain (OpenSpec.ofChange wholeSizesSpec)) wholeSizesCard

/-- THE TIED CARD OF 'quitrentlaw06.TagUnpacks'. -/
def tagUnpacksCard : Claim7 := { stood := { row := tagUnpacksRow, standIns := [], harness := (true, "7296b3c964b63316eb364041b9578a7719d2236b64f904f10706583f1ccd9399"), looks := false }, kinds := [], alts := [], laidByText := true, laidKinds := [.data, .data], laidTests := true, laidLooks := .later }
def TagUnpacksCardSaid : Prop := Claim7.holds Tryd.pinned (.plain (OpenSpec.ofChange tagUnpacksSpec)) tagUnpacksCard

/-- THE TIED CARD OF 'quitrentlaw06.TagBack'. -/
def tagBackCard : Claim7 := { stood := { row := tagBackRow, standIns := [], harness := (true, "7296b3c964b63316eb364041b9578a7719d2236b64f904f10706583f1ccd9399"), looks := false }, kinds := [], alts := [], laidByText := true, laidKinds := [.data, .data], laidTests := true, laidLooks := .later }
def TagBackCardSaid : Prop := Claim7.holds Tryd.pinned (.plain (OpenSpec.ofChange tagBackSpec)) tagBackCard

/-- THE SECOND FORM's CARD OF 'quitrentlaw06.TagPacks'. -/
def tagPacksUptoCard : Claim7 := { stood := { row := tagPacksUptoRow, standIns := [], harness := (true, "7296b3c964b63316eb364041b9578a7719d2236b64f904f10706583f1ccd9399"), looks := false }, kinds := [], alts := [], laidByText := true, laidKinds := [.data, .data], laidTests := true, laidLooks := .later }
def TagPacksUptoCardSaid : Prop := Claim7.holds Tryd.pinned (.plain (OpenSpec.upto tagPacksSpec)) tagPacksUptoCard

/-- THE SECOND FORM's CARD OF 'quitrentlaw06.TagNames'. -/
def tagNamesUptoCard : Claim7 := { stood := { row := tagNamesUptoRow, standIns := [], harness := (true, "7296b3c964b63316eb364041b9578a7719d2236b64f904f10706583f1ccd9399"), looks := false }, kinds := [], alts := [], laidByText := true, laidKinds := [.data, .data], laidTests := true, laidLooks := .later }
def TagNamesUptoCardSaid : Prop := Claim7.holds Tryd.pinned (.plain (OpenSpec.upto tagNamesSpec)) tagNamesUptoCard

/-- THE SECOND FORM's CARD OF 'quitrenttop.WholeSizes'. -/
def wholeSizesUptoCard : Claim7 := { stood := { row := wholeSizesUptoRow, standIns := [], harness := (true, "7296b3c964b63316eb364041b9578a7719d2236b64f904f10706583f1ccd9399"), looks := false }, kinds := [], alts := [], laidByText := true, laidKinds := [.data], laidTests := true, laidLooks := .later }
def WholeSizesUptoCardSaid : Prop := Claim7.holds Tryd.pinned (.plain (OpenSpec.upto wholeSizesSpec)) wholeSizesUptoCard

/-- THE SECOND FORM's CARD OF 'quitrentlaw06.TagUnpacks'. -/
def tagUnpacksUptoCard : Claim7 := { stood := { row := tagUnpacksUptoRow, standIns := [], harness := (true, "7296b3c964b63316eb364041b9578a7719d2236b64f904f10706583f1ccd9399"), looks := false }, kinds := [], alts := [], laidByText := true, laidKinds := [.data, .data], laidTests := true, laidLooks := .later }
def TagUnpacksUptoCardSaid : Prop := Claim7.holds Tryd.pinned (.plain (OpenSpec.upto tagUnpacksSpec)) tagUnpacksUptoCard

/-- THE SECOND FORM's CARD OF 'quitrentlaw06.TagBack'. -/
def tagBackUptoCard : Claim7 := { stood := { row := tagBackUptoRow, standIns := [], harness := (true, "7296b3c964b63316eb364041b9578a7719d2236b64f904f10706583f1ccd9399"), looks := false }, kinds := [], alts := [], laidByText := true, laidKinds := [.data, .data], laidTests := true, laidLooks := .later }
def TagBackUptoCardSaid : Prop := Claim7.holds Tryd.pinned (.plain (OpenSpec.upto tagBackSpec)) tagBackUptoCard
end Rows
end Go.Proofs.YtgkpcboaiaiahabDoor
