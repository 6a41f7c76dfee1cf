/-
  DERIVED. GIVEN WITH THE SEED: THE CARDS: each row of YtobeonkddamnoaaDoorRows.lean that lists a variable, with what it lists TIED to the program's text (the seventh form; the later family's looks); each row that meets fmt, with fmt's text TOLD by the authors' own Lean function (tested against real Go, not proved from fmt's source: count such statements apart). THE CARD IS WHAT COUNTS. Prove the row's statement (the work); the ties are given (YtobeonkddamnoaaDoorTie.lean); close each card by the builder's one call (the guide's Derived/Test/ToyasCard.lean, 'card_holds'). Laid BY PROGRAM, IN A SANDBOX (cutbox-door.mjs). By AI agents, Wed Nov 11 2026. No macro, syntax, notation, axiom, sorry.
-/
import Derived.Test.YtobeonkddamnoaaDoorRows
import GoSem.ClaimSeven
namespace Go.Proofs.YtobeonkddamnoaaDoor
namespace Rows

/-- THE TIED CARD OF 'quitrenttop.WholeTags'. -/
def wholeTagsCard : Claim7 := { stood := { row := wholeTagsRow, standIns := [], harness := (true, "684f224fa72f0a72efd7c0f03d6ca8127d2672fdbe69faf73492e01140e315be"), looks := false }, kinds := [], alts := [], laidByText := true, laidKinds := [.data], laidTests := true, laidLooks := .later }
def WholeTagsCardSaid : Prop := Claim7.holds Tryd.pinned (.plain (OpenSpec.ofChange wholeTagsSpec)) wholeTagsCard

/-- THE TIED CARD OF 'quitrentlaw09.RingOrder'. -/
def ringOrderCard : Claim7 := { stood := { row := ringOrderRow, standIns := [], harness := (true, "684f224fa72f0a72efd7c0f03d6ca8127d2672fdbe69faf73492e01140e315be"), looks := false }, kinds := [], alts := [], laidByText := true, laidKinds := [.data], laidTests := true, laidLooks := .later }
def RingOrderCardSaid : Prop := Claim7.holds Tryd.pinned (.plain (OpenSpec.ofChange ringOrderSpec)) ringOrderCard

/-- THE TIED CARD OF 'quitrentlaw09.RingNobody'. -/
def ringNobodyCard : Claim7 := { stood := { row := ringNobodyRow, standIns := [], harness := (true, "684f224fa72f0a72efd7c0f03d6ca8127d2672fdbe69faf73492e01140e315be"), looks := false }, kinds := [], alts := [], laidByText := true, laidKinds := [.data], laidTests := true, laidLooks := .later }
def RingNobodyCardSaid : Prop := Claim7.holds Tryd.pinned (.plain (OpenSpec.ofChange ringNobodySpec)) ringNobodyCard

/-- THE TIED CARD OF 'quitrentlaw09.RingPlays'. -/
def ringPlaysCard : Claim7 := { stood := { row := ringPlaysRow, standIns := [], harness := (true, "684f224fa72f0a72efd7c0f03d6ca8127d2672fdbe69faf73492e01140e315be"), looks := false }, kinds := [], alts := [], laidByText := true, laidKinds := [.data], laidTests := true, laidLooks := .later }
def RingPlaysCardSaid : Prop := Claim7.holds Tryd.pinned (.plain (OpenSpec.ofChange ringPlaysSpec)) ringPlaysCard

/-- THE TIED CARD OF 'quitrentlaw12.CountAlone'. -/
def countAloneCard : Claim7 := { stood := { row := countAloneRow, standIns := [], harness := (true, "684f224fa72f0a72efd7c0f03d6ca8127d2672fdbe69faf73492e01140e315be"), looks := false }, kinds := [], alts := [], laidByText := true, laidKinds := [.data], laidTests := true, laidLooks := .later }
def CountAloneCardSaid : Prop := Claim7.holds Tryd.pinned (.plain (OpenSpec.ofChange countAloneSpec)) countAloneCard

/-- THE TIED CARD OF 'quitrentlaw12.CountNobody'. -/
def countNobodyCard : Claim7 := { stood := { row := countNobodyRow, standIns := [], harness := (true, "684f224fa72f0a72efd7c0f03d6ca8127d2672fdbe69faf73492e01140e315be"), looks := false }, kinds := [], alts := [], laidByText := true, laidKinds := [.data], laidTests := true, laidLooks := .later }
def CountNobodyCardSaid : Prop := Claim7.holds Tryd.pinned (.plain (OpenSpec.ofChange countNobodySpec)) countNobodyCard

/-- THE TIED CARD OF 'quitrentlaw11.ObjWhole'. -/
def objWholeCard : Claim7 := { stood := { row := objWholeRow, standIns := [], harness := (true, "684f224fa72f0a72efd7c0f03d6ca8127d2672fdbe69faf73492e01140e315be"), looks := false }, kinds := [], alts := [], laidByText := true, laidKinds := [.data], laidTests := true, laidLooks := .later }
def ObjWholeCardSaid : Prop := Claim7.holds Tryd.pinned (.plain (OpenSpec.ofChange objWholeSpec)) objWholeCard

/-- THE TIED CARD OF 'quitrentlaw13.TintIdle'. -/
def tintIdleCard : Claim7 := { stood := { row := tintIdleRow, standIns := [], harness := (true, "684f224fa72f0a72efd7c0f03d6ca8127d2672fdbe69faf73492e01140e315be"), looks := false }, kinds := [], alts := [], laidByText := true, laidKinds := [.data], laidTests := true, laidLooks := .later }
def TintIdleCardSaid : Prop := Claim7.holds Tryd.pinned (.plain (OpenSpec.ofChange tintIdleSpec)) tintIdleCard

/-- THE TIED CARD OF 'quitrentlaw11.ObjApart'. -/
def objApartCard : Claim7 := { stood := { row := objApartRow, standIns := [], harness := (true, "684f224fa72f0a72efd7c0f03d6ca8127d2672fdbe69faf73492e01140e315be"), looks := false }, kinds := [], alts := [], laidByText := true, laidKinds := [.data], laidTests := true, laidLooks := .later }
def ObjApartCardSaid : Prop := Claim7.holds Tryd.pinned (.plain (OpenSpec.ofChange objApartSpec)) objApartCard

/-- THE TIED CARD OF 'quitrentlaw11.ObjNobody'. -/
def objNobodyCard : Claim7 := { stood := { row := objNobodyRow, standIns := [], harness := (true, "684f224fa72f0a72efd7c0f03d6ca8127d2672fdbe69faf73492e01140e315be"), looks := false }, kinds := [], alts := [], laidByText := true, laidKinds := [.data], laidTests := true, laidLooks := .later }
def ObjNobodyCardSaid : Prop := Claim7.holds Tryd.pinned (.plain (OpenSpec.ofChange objNobodySpec)) objNobodyCard

/-- THE TIED CARD OF 'quitrenttop.WholeRows'. -/
def wholeRowsCard : Claim7 := { stood := { row := wholeRowsRow, standIns := [], harness := (true, "684f224fa72f0a72efd7c0f03d6ca8127d2672fdbe69faf73492e01140e315be"), looks := false }, kinds := [], alts := [], laidByText := true, laidKinds := [.data], laidTests := true, laidLooks := .later }
def WholeRowsCardSaid : Prop := Claim7.holds Tryd.pinned (.plain (OpenSpec.ofChange wholeRowsSpec)) wholeRowsCard

/-- THE SECOND FORM's CARD OF 'quitrenttop.WholeTags'. -/
def wholeTagsUptoCard : Claim7 := { stood := { row := wholeTagsUptoRow, standIns := [], harness := (true, "684f224fa72f0a72efd7c0f03d6ca8127d2672fdbe69faf73492e01140e315be"), looks := false }, kinds := [], alts := [], laidByText := true, laidKinds := [.data], laidTests := true, laidLooks := .later }
def WholeTagsUptoCardSaid : Prop := Claim7.holds Tryd.pinned (.plain (OpenSpec.upto wholeTagsSpec)) wholeTagsUptoCard

/-- THE SECOND FORM's CARD OF 'quitrentlaw09.RingOrder'. -/
def ringOrderUptoCard : Claim7 := { stood := { row := ringOrderUptoRow, standIns := [], harness := (true, "684f224fa72f0a72efd7c0f03d6ca8127d2672fdbe69faf73492e01140e315be"), looks := false }, kinds := [], alts := [], laidByText := true, laidKinds := [.data], laidTests := true, laidLooks := .later }
def RingOrderUptoCardSaid : Prop := Claim7.holds Tryd.pinned (.plain (OpenSpec.upto ringOrderSpec)) ringOrderUptoCard

/-- THE SECOND FORM's CARD OF 'quitrentlaw09.RingNobody'. -/
def ringNobodyUptoCard : Claim7 := { stood := { row := ringNobodyUptoRow, standIns := [], harness := (true, "684f224fa72f0a72efd7c0f03d6ca8127d2672fdbe69faf73492e01140e315be"), looks := false }, kinds := [], alts := [], laidByText := true, laidKinds := [.data], laidTests := true, laidLooks := .later }
def RingNobodyUptoCardSaid : Prop := Claim7.holds Tryd.pinned (.plain (OpenSpec.upto ringNobodySpec)) ringNobodyUptoCard

/-- THE SECOND FORM's CARD OF 'quitrentlaw09.RingPlays'. -/
def ringPlaysUptoCard : Claim7 := { stood := { row := ringPlaysUptoRow, standIns := [], harness := (true, "684f224fa72f0a72efd7c0f03d6ca8127d2672fdbe69faf73492e01140e315be"), looks := false }, kinds := [], alts := [], laidByText := true, laidKinds := [.data], laidTests := true, laidLooks := .later }
def RingPlaysUptoCardSaid : Prop := Claim7.holds Tryd.pinned (.plain (OpenSpec.upto ringPlaysSpec)) ringPlaysUptoCard

/-- THE SECOND FORM's CARD OF 'quitrentlaw12.CountAlone'. -/
def countAloneUptoCard : Claim7 := { stood := { row := countAloneUptoRow, standIns := [], harness := (true, "684f224fa72f0a72efd7c0f03d6ca8127d2672fdbe69faf73492e01140e315be"), looks := false }, kinds := [], alts := [], laidByText := true, laidKinds := [.data], laidTests := true, laidLooks := .later }
def CountAloneUptoCardSaid : Prop := Claim7.holds Tryd.pinned (.plain (OpenSpec.upto countAloneSpec)) countAloneUptoCard

/-- THE SECOND FORM's CARD OF 'quitrentlaw12.CountNobody'. -/
def countNobodyUptoCard : Claim7 := { stood := { row := countNobodyUptoRow, standIns := [], harness := (true, "684f224fa72f0a72efd7c0f03d6ca8127d2672fdbe69faf73492e01140e315be"), looks := false }, kinds := [], alts := [], laidByText := true, laidKinds := [.data], laidTests := true, laidLooks := .later }
def CountNobodyUptoCardSaid : Prop := Claim7.holds Tryd.pinned (.plain (OpenSpec.upto countNobodySpec)) countNobodyUptoCard

/-- THE SECOND FORM's CARD OF 'quitrentlaw11.ObjWhole'. -/
def objWholeUptoCard : Claim7 := { stood := { row := objWholeUptoRow, standIns := [], harness := (true, "684f224fa72f0a72efd7c0f03d6ca8127d2672fdbe69faf73492e01140e315be"), looks := false }, kinds := [], alts := [], laidByText := true, laidKinds := [.data], laidTests := true, laidLooks := .later }
def ObjWholeUptoCardSaid : Prop := Claim7.holds Tryd.pinned (.plain (OpenSpec.upto objWholeSpec)) objWholeUptoCard

/-- THE SECOND FORM's CARD OF 'quitrentlaw13.TintIdle'. -/
def tintIdleUptoCard : Claim7 := { stood := { row := tintIdleUptoRow, standIns := [], harness := (true, "684f224fa72f0a72efd7c0f03d6ca8127d2672fdbe69faf73492e01140e315be"), looks := false }, kinds := [], alts := [], laidByText := true, laidKinds := [.data], laidTests := true, laidLooks := .later }
def TintIdleUptoCardSaid : Prop := Claim7.holds Tryd.pinned (.plain (OpenSpec.upto tintIdleSpec)) tintIdleUptoCard

/-- THE SECOND FORM's CARD OF 'quitrentlaw11.ObjApart'. -/
def objApartUptoCard : Claim7 := { stood := { row := objApartUptoRow, standIns := [], harness := (true, "684f224fa72f0a72efd7c0f03d6ca8127d2672fdbe69faf73492e01140e315be"), looks := false }, kinds := [], alts := [], laidByText := true, laidKinds := [.data], laidTests := true, laidLooks := .later }
def ObjApartUptoCardSaid : Prop := Claim7.holds Tryd.pinned (.plain (OpenSpec.upto objApartSpec)) objApartUptoCard

/-- THE SECOND FORM's CARD OF 'quitrentlaw11.ObjNobody'. -/
def objNobodyUptoCard : Claim7 := { stood := { row := objNobodyUptoRow, standIns := [], harness := (true, "684f224fa72f0a72efd7c0f03d6ca8127d2672fdbe69faf73492e01140e315be"), looks := false }, kinds := [], alts := [], laidByText := true, laidKinds := [.data], laidTests := true, laidLooks := .later }
def ObjNobodyUptoCardSaid : Prop := Claim7.holds Tryd.pinned (.plain (OpenSpec.upto objNobodySpec)) objNobodyUptoCard

/-- THE SECOND FORM's CARD OF 'quitrenttop.WholeRows'. -/
def wholeRowsUptoCard : Claim7 := { stood := { row := wholeRowsUptoRow, standIns := [], harness := (true, "684f224fa72f0a72efd7c0f03d6ca8127d2672fdbe69faf73492e01140e315be"), looks := false }, kinds := [], alts := [], laidByText := true, laidKinds := [.data], laidTests := true, laidLooks := .later }
def WholeRowsUptoCardSaid : Prop := Claim7.holds Tryd.pinned (.plain (OpenSpec.upto wholeRowsSpec)) wholeRowsUptoCard
end Rows
end Go.Proofs.YtobeonkddamnoaaDoor
