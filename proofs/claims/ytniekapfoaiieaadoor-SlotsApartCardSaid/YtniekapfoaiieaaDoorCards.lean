/-
  DERIVED. GIVEN WITH THE SEED: THE CARDS: each row of YtniekapfoaiieaaDoorRows.lean that lists a variable, with what it lists TIED to the program's text (the seventh form; the later family's looks); each row that meets fmt, with fmt's text TOLD by the authors' own Lean function (tested against real Go, not proved from fmt's source: count such statements apart). THE CARD IS WHAT COUNTS. Prove the row's statement (the work); the ties are given (YtniekapfoaiieaaDoorTie.lean); close each card by the builder's one call (the guide's Derived/Test/ToyasCard.lean, 'card_holds'). Laid BY PROGRAM, IN A SANDBOX (cutbox-door.mjs). By AI agents, Wed Nov 11 2026. No macro, syntax, notation, axiom, sorry.
-/
import Derived.Test.YtniekapfoaiieaaDoorRows
import GoSem.ClaimSeven
namespace Go.Proofs.YtniekapfoaiieaaDoor
namespace Rows

/-- THE TIED CARD OF 'casematelaw10.BoxTold'. -/
def boxToldCard : Claim7 := { stood := { row := boxToldRow, standIns := [], harness := (true, "260fdf816069b3bf8e1fff31512b0488977d0f5c26e19155cc996da54a266071"), looks := false }, kinds := [], alts := [], laidByText := true, laidKinds := [.data, .data, .data, .data], laidTests := true, laidLooks := .later }
def BoxToldCardSaid : Prop := Claim7.holds Tryd.pinned (.plain (OpenSpec.ofChange boxToldSpec)) boxToldCard

/-- THE TIED CARD OF 'casematelaw10.BoxWraps'. -/
def boxWrapsCard : Claim7 := { stood := { row := boxWrapsRow, standIns := [], harness := (true, "260fdf816069b3bf8e1fff31512b0488977d0f5c26e19155cc996da54a266071"), looks := false }, kinds := [], alts := [], laidByText := true, laidKinds := [.data, .data, .data, .data], laidTests := true, laidLooks := .later }
def BoxWrapsCardSaid : Prop := Claim7.holds Tryd.pinned (.plain (OpenSpec.ofChange boxWrapsSpec)) boxWrapsCard

/-- THE TIED CARD OF 'casematelaw10.BoxLays'. -/
def boxLaysCard : Claim7 := { stood := { row := boxLaysRow, standIns := [], harness := (true, "260fdf816069b3bf8e1fff31512b0488977d0f5c26e19155cc996da54a266071"), looks := false }, kinds := [], alts := [], laidByText := true, laidKinds := [.data, .data, .data, .data], laidTests := true, laidLooks := .later }
def BoxLaysCardSaid : Prop := Claim7.holds Tryd.pinned (.plain (OpenSpec.ofChange boxLaysSpec)) boxLaysCard

/-- THE TIED CARD OF 'casematelaw10.BoxBack'. -/
def boxBackCard : Claim7 := { stood := { row := boxBackRow, standIns := [], harness := (true, "260fdf816069b3bf8e1fff31512b0488977d0f5c26e19155cc996da54a266071"), looks := false }, kinds := [], alts := [], laidByText := true, laidKinds := [.data, .data, .data, .data], laidTests := true, laidLooks := .later }
def BoxBackCardSaid : Prop := Claim7.holds Tryd.pinned (.plain (OpenSpec.ofChange boxBackSpec)) boxBackCard

/-- THE TIED CARD OF 'casematelaw10.BoxKnown'. -/
def boxKnownCard : Claim7 := { stood := { row := boxKnownRow, standIns := [], harness := (true, "260fdf816069b3bf8e1fff31512b0488977d0f5c26e19155cc996da54a266071"), looks := false }, kinds := [], alts := [], laidByText := true, laidKinds := [.data, .data, .data, .data], laidTests := true, laidLooks := .later }
def BoxKnownCardSaid : Prop := Claim7.holds Tryd.pinned (.plain (OpenSpec.ofChange boxKnownSpec)) boxKnownCard

/-- THE TIED CARD OF 'casematelaw25.SlotsBoxes'. -/
def slotsBoxesCard : Claim7 := { stood := { row := slotsBoxesRow, standIns := [], harness := (true, "260fdf816069b3bf8e1fff31512b0488977d0f5c26e19155cc996da54a266071"), looks := false }, kinds := [], alts := [], laidByText := true, laidKinds := [.data, .data, .data, .data], laidTests := true, laidLooks := .later }
def SlotsBoxesCardSaid : Prop := Claim7.holds Tryd.pinned (.plain (OpenSpec.ofChange slotsBoxesSpec)) slotsBoxesCard

/-- THE TIED CARD OF 'casematelaw25.SlotsRemoves'. -/
def slotsRemovesCard : Claim7 := { stood := { row := slotsRemovesRow, standIns := [], harness := (true, "260fdf816069b3bf8e1fff31512b0488977d0f5c26e19155cc996da54a266071"), looks := false }, kinds := [], alts := [], laidByText := true, laidKinds := [.data, .data, .data, .data], laidTests := true, laidLooks := .later }
def SlotsRemovesCardSaid : Prop := Claim7.holds Tryd.pinned (.plain (OpenSpec.ofChange slotsRemovesSpec)) slotsRemovesCard

/-- THE TIED CARD OF 'casematelaw25.SlotsKnown'. -/
def slotsKnownCard : Claim7 := { stood := { row := slotsKnownRow, standIns := [], harness := (true, "260fdf816069b3bf8e1fff31512b0488977d0f5c26e19155cc996da54a266071"), looks := false }, kinds := [], alts := [], laidByText := true, laidKinds := [.data, .data, .data, .data], laidTests := true, laidLooks := .later }
def SlotsKnownCardSaid : Prop := Claim7.holds Tryd.pinned (.plain (OpenSpec.ofChange slotsKnownSpec)) slotsKnownCard

/-- THE TIED CARD OF 'casematelaw25.SlotsOpen'. -/
def slotsOpenCard : Claim7 := { stood := { row := slotsOpenRow, standIns := [], harness := (true, "260fdf816069b3bf8e1fff31512b0488977d0f5c26e19155cc996da54a266071"), looks := false }, kinds := [], alts := [], laidByText := true, laidKinds := [.data, .data, .data, .data], laidTests := true, laidLooks := .later }
def SlotsOpenCardSaid : Prop := Claim7.holds Tryd.pinned (.plain (OpenSpec.ofChange slotsOpenSpec)) slotsOpenCard

/-- THE TIED CARD OF 'casematelaw25.SlotsApart'. -/
def slotsApartCard : Claim7 := { stood := { row := slotsApartRow, standIns := [], harness := (true, "260fdf816069b3bf8e1fff31512b0488977d0f5c26e19155cc996da54a266071"), looks := false }, kinds := [], alts := [], laidByText := true, laidKinds := [.data, .data, .data, .data], laidTests := true, laidLooks := .later }
def SlotsApartCardSaid : Prop := Claim7.holds Tryd.pinned (.plain (OpenSpec.ofChange slotsApartSpec)) slotsApartCard

/-- THE TIED CARD OF 'casematelaw25.SlotsUnlocks'. -/
def slotsUnlocksCard : Claim7 := { stood := { row := slotsUnlocksRow, standIns := [], harness := (true, "260fdf816069b3bf8e1fff31512b0488977d0f5c26e19155cc996da54a266071"), looks := false }, kinds := [], alts := [], laidByText := true, laidKinds := [.data, .data, .data, .data], laidTests := true, laidLooks := .later }
def SlotsUnlocksCardSaid : Prop := Claim7.holds Tryd.pinned (.plain (OpenSpec.ofChange slotsUnlocksSpec)) slotsUnlocksCard

/-- THE SECOND FORM's CARD OF 'casematelaw10.BoxTold'. -/
def boxToldUptoCard : Claim7 := { stood := { row := boxToldUptoRow, standIns := [], harness := (true, "260fdf816069b3bf8e1fff31512b0488977d0f5c26e19155cc996da54a266071"), looks := false }, kinds := [], alts := [], laidByText := true, laidKinds := [.data, .data, .data, .data], laidTests := true, laidLooks := .later }
def BoxToldUptoCardSaid : Prop := Claim7.holds Tryd.pinned (.plain (OpenSpec.upto boxToldSpec)) boxToldUptoCard

/-- THE SECOND FORM's CARD OF 'casematelaw10.BoxWraps'. -/
def boxWrapsUptoCard : Claim7 := { stood := { row := boxWrapsUptoRow, standIns := [], harness := (true, "260fdf816069b3bf8e1fff31512b0488977d0f5c26e19155cc996da54a266071"), looks := false }, kinds := [], alts := [], laidByText := true, laidKinds := [.data, .data, .data, .data], laidTests := true, laidLooks := .later }
def BoxWrapsUptoCardSaid : Prop := Claim7.holds Tryd.pinned (.plain (OpenSpec.upto boxWrapsSpec)) boxWrapsUptoCard

/-- THE SECOND FORM's CARD OF 'casematelaw10.BoxLays'. -/
def boxLaysUptoCard : Claim7 := { stood := { row := boxLaysUptoRow, standIns := [], harness := (true, "260fdf816069b3bf8e1fff31512b0488977d0f5c26e19155cc996da54a266071"), looks := false }, kinds := [], alts := [], laidByText := true, laidKinds := [.data, .data, .data, .data], laidTests := true, laidLooks := .later }
def BoxLaysUptoCardSaid : Prop := Claim7.holds Tryd.pinned (.plain (OpenSpec.upto boxLaysSpec)) boxLaysUptoCard

/-- THE SECOND FORM's CARD OF 'casematelaw10.BoxBack'. -/
def boxBackUptoCard : Claim7 := { stood := { row := boxBackUptoRow, standIns := [], harness := (true, "260fdf816069b3bf8e1fff31512b0488977d0f5c26e19155cc996da54a266071"), looks := false }, kinds := [], alts := [], laidByText := true, laidKinds := [.data, .data, .data, .data], laidTests := true, laidLooks := .later }
def BoxBackUptoCardSaid : Prop := Claim7.holds Tryd.pinned (.plain (OpenSpec.upto boxBackSpec)) boxBackUptoCard

/-- THE SECOND FORM's CARD OF 'casematelaw10.BoxKnown'. -/
def boxKnownUptoCard : Claim7 := { stood := { row := boxKnownUptoRow, standIns := [], harness := (true, "260fdf816069b3bf8e1fff31512b0488977d0f5c26e19155cc996da54a266071"), looks := false }, kinds := [], alts := [], laidByText := true, laidKinds := [.data, .data, .data, .data], laidTests := true, laidLooks := .later }
def BoxKnownUptoCardSaid : Prop := Claim7.holds Tryd.pinned (.plain (OpenSpec.upto boxKnownSpec)) boxKnownUptoCard

/-- THE SECOND FORM's CARD OF 'casematelaw25.SlotsBoxes'. -/
def slotsBoxesUptoCard : Claim7 := { stood := { row := slotsBoxesUptoRow, standIns := [], harness := (true, "260fdf816069b3bf8e1fff31512b0488977d0f5c26e19155cc996da54a266071"), looks := false }, kinds := [], alts := [], laidByText := true, laidKinds := [.data, .data, .data, .data], laidTests := true, laidLooks := .later }
def SlotsBoxesUptoCardSaid : Prop := Claim7.holds Tryd.pinned (.plain (OpenSpec.upto slotsBoxesSpec)) slotsBoxesUptoCard

/-- THE SECOND FORM's CARD OF 'casematelaw25.SlotsRemoves'. -/
def slotsRemovesUptoCard : Claim7 := { stood := { row := slotsRemovesUptoRow, standIns := [], harness := (true, "260fdf816069b3bf8e1fff31512b0488977d0f5c26e19155cc996da54a266071"), looks := false }, kinds := [], alts := [], laidByText := true, laidKinds := [.data, .data, .data, .data], laidTests := true, laidLooks := .later }
def SlotsRemovesUptoCardSaid : Prop := Claim7.holds Tryd.pinned (.plain (OpenSpec.upto slotsRemovesSpec)) slotsRemovesUptoCard

/-- THE SECOND FORM's CARD OF 'casematelaw25.SlotsKnown'. -/
def slotsKnownUptoCard : Claim7 := { stood := { row := slotsKnownUptoRow, standIns := [], harness := (true, "260fdf816069b3bf8e1fff31512b0488977d0f5c26e19155cc996da54a266071"), looks := false }, kinds := [], alts := [], laidByText := true, laidKinds := [.data, .data, .data, .data], laidTests := true, laidLooks := .later }
def SlotsKnownUptoCardSaid : Prop := Claim7.holds Tryd.pinned (.plain (OpenSpec.upto slotsKnownSpec)) slotsKnownUptoCard

/-- THE SECOND FORM's CARD OF 'casematelaw25.SlotsOpen'. -/
def slotsOpenUptoCard : Claim7 := { stood := { row := slotsOpenUptoRow, standIns := [], harness := (true, "260fdf816069b3bf8e1fff31512b0488977d0f5c26e19155cc996da54a266071"), looks := false }, kinds := [], alts := [], laidByText := true, laidKinds := [.data, .data, .data, .data], laidTests := true, laidLooks := .later }
def SlotsOpenUptoCardSaid : Prop := Claim7.holds Tryd.pinned (.plain (OpenSpec.upto slotsOpenSpec)) slotsOpenUptoCard

/-- THE SECOND FORM's CARD OF 'casematelaw25.SlotsApart'. -/
def slotsApartUptoCard : Claim7 := { stood := { row := slotsApartUptoRow, standIns := [], harness := (true, "260fdf816069b3bf8e1fff31512b0488977d0f5c26e19155cc996da54a266071"), looks := false }, kinds := [], alts := [], laidByText := true, laidKinds := [.data, .data, .data, .data], laidTests := true, laidLooks := .later }
def SlotsApartUptoCardSaid : Prop := Claim7.holds Tryd.pinned (.plain (OpenSpec.upto slotsApartSpec)) slotsApartUptoCard

/-- THE SECOND FORM's CARD OF 'casematelaw25.SlotsUnlocks'. -/
def slotsUnlocksUptoCard : Claim7 := { stood := { row := slotsUnlocksUptoRow, standIns := [], harness := (true, "260fdf816069b3bf8e1fff31512b0488977d0f5c26e19155cc996da54a266071"), looks := false }, kinds := [], alts := [], laidByText := true, laidKinds := [.data, .data, .data, .data], laidTests := true, laidLooks := .later }
def SlotsUnlocksUptoCardSaid : Prop := Claim7.holds Tryd.pinned (.plain (OpenSpec.upto slotsUnlocksSpec)) slotsUnlocksUptoCard
end Rows
end Go.Proofs.YtniekapfoaiieaaDoor
