/-
  DERIVED. GIVEN WITH THE SEED: THE CARDS: each row of YtobeonkddamnoaaGreatDoorRows.lean that lists a variable, with what it lists TIED to the program's text (the seventh form; the later family's looks); each row that meets fmt, with fmt's text TOLD by the authors' own Lean function (tested against real Go, not proved from fmt's source: count such statements apart). THE CARD IS WHAT COUNTS. Prove the row's statement (the work); the ties are given (YtobeonkddamnoaaGreatDoorTie.lean); close each card by the builder's one call (the guide's Derived/Test/ToyasCard.lean, 'card_holds'). Laid BY PROGRAM, IN A SANDBOX (cutbox-door.mjs). By AI agents, Wed Nov 11 2026. No macro, syntax, notation, axiom, sorry.
-/
import Derived.Test.YtobeonkddamnoaaGreatDoorRows
import GoSem.ClaimSeven
namespace Go.Proofs.YtobeonkddamnoaaGreatDoor
namespace Rows

/-- THE TIED CARD OF 'quitrentlaw13.TintTurns'. -/
def tintTurnsCard : Claim7 := { stood := { row := tintTurnsRow, standIns := [], harness := (true, "067ab2d266c63b49f2ca5abfd9e7b452270343a8e228cb0c91dec299154ae3b7"), looks := false }, kinds := [], alts := [], laidByText := true, laidKinds := [.data], laidTests := true, laidLooks := .later }
def TintTurnsCardSaid : Prop := Claim7.holds Tryz.pinned (.plain (OpenSpec.ofChange tintTurnsSpec)) tintTurnsCard

/-- THE TIED CARD OF 'quitrentlaw13.TintNobody'. -/
def tintNobodyCard : Claim7 := { stood := { row := tintNobodyRow, standIns := [], harness := (true, "067ab2d266c63b49f2ca5abfd9e7b452270343a8e228cb0c91dec299154ae3b7"), looks := false }, kinds := [], alts := [], laidByText := true, laidKinds := [.data], laidTests := true, laidLooks := .later }
def TintNobodyCardSaid : Prop := Claim7.holds Tryz.pinned (.plain (OpenSpec.ofChange tintNobodySpec)) tintNobodyCard

/-- THE TIED CARD OF 'quitrentlaw13.TintPlays'. -/
def tintPlaysCard : Claim7 := { stood := { row := tintPlaysRow, standIns := [], harness := (true, "067ab2d266c63b49f2ca5abfd9e7b452270343a8e228cb0c91dec299154ae3b7"), looks := false }, kinds := [], alts := [], laidByText := true, laidKinds := [.data], laidTests := true, laidLooks := .later }
def TintPlaysCardSaid : Prop := Claim7.holds Tryz.pinned (.plain (OpenSpec.ofChange tintPlaysSpec)) tintPlaysCard

/-- THE TIED CARD OF 'quitrenttop.WholeOften'. -/
def wholeOftenCard : Claim7 := { stood := { row := wholeOftenRow, standIns := [], harness := (true, "067ab2d266c63b49f2ca5abfd9e7b452270343a8e228cb0c91dec299154ae3b7"), looks := false }, kinds := [], alts := [], laidByText := true, laidKinds := [.data], laidTests := true, laidLooks := .later }
def WholeOftenCardSaid : Prop := Claim7.holds Tryz.pinned (.plain (OpenSpec.ofChange wholeOftenSpec)) wholeOftenCard

/-- THE SECOND FORM's CARD OF 'quitrentlaw13.TintTurns'. -/
def tintTurnsUptoCard : Claim7 := { stood := { row := tintTurnsUptoRow, standIns := [], harness := (true, "067ab2d266c63b49f2ca5abfd9e7b452270343a8e228cb0c91dec299154ae3b7"), looks := false }, kinds := [], alts := [], laidByText := true, laidKinds := [.data], laidTests := true, laidLooks := .later }
def TintTurnsUptoCardSaid : Prop := Claim7.holds Tryz.pinned (.plain (OpenSpec.upto tintTurnsSpec)) tintTurnsUptoCard

/-- THE SECOND FORM's CARD OF 'quitrentlaw13.TintNobody'. -/
def tintNobodyUptoCard : Claim7 := { stood := { row := tintNobodyUptoRow, standIns := [], harness := (true, "067ab2d266c63b49f2ca5abfd9e7b452270343a8e228cb0c91dec299154ae3b7"), looks := false }, kinds := [], alts := [], laidByText := true, laidKinds := [.data], laidTests := true, laidLooks := .later }
def TintNobodyUptoCardSaid : Prop := Claim7.holds Tryz.pinned (.plain (OpenSpec.upto tintNobodySpec)) tintNobodyUptoCard

/-- THE SECOND FORM's CARD OF 'quitrentlaw13.TintPlays'. -/
def tintPlaysUptoCard : Claim7 := { stood := { row := tintPlaysUptoRow, standIns := [], harness := (true, "067ab2d266c63b49f2ca5abfd9e7b452270343a8e228cb0c91dec299154ae3b7"), looks := false }, kinds := [], alts := [], laidByText := true, laidKinds := [.data], laidTests := true, laidLooks := .later }
def TintPlaysUptoCardSaid : Prop := Claim7.holds Tryz.pinned (.plain (OpenSpec.upto tintPlaysSpec)) tintPlaysUptoCard

/-- THE SECOND FORM's CARD OF 'quitrenttop.WholeOften'. -/
def wholeOftenUptoCard : Claim7 := { stood := { row := wholeOftenUptoRow, standIns := [], harness := (true, "067ab2d266c63b49f2ca5abfd9e7b452270343a8e228cb0c91dec299154ae3b7"), looks := false }, kinds := [], alts := [], laidByText := true, laidKinds := [.data], laidTests := true, laidLooks := .later }
def WholeOftenUptoCardSaid : Prop := Claim7.holds Tryz.pinned (.plain (OpenSpec.upto wholeOftenSpec)) wholeOftenUptoCard
end Rows
end Go.Proofs.YtobeonkddamnoaaGreatDoor
