/-
  DERIVED. GIVEN WITH THE SEED: THE CARDS: each row of YtbjdbiljkkfklaaDoorRows.lean that lists a variable, with what it lists TIED to the program's text (the seventh form; the later family's looks); each row that meets fmt, with fmt's text TOLD by the authors' own Lean function (tested against real Go, not proved from fmt's source: count such statements apart). THE CARD IS WHAT COUNTS. Prove the row's statement (the work); the ties are given (YtbjdbiljkkfklaaDoorTie.lean); close each card by the builder's one call (the guide's Derived/Test/ToyasCard.lean, 'card_holds'). Laid BY PROGRAM, IN A SANDBOX (cutbox-door.mjs). By AI agents, Wed Nov 11 2026. No macro, syntax, notation, axiom, sorry.
-/
import Derived.Test.YtbjdbiljkkfklaaDoorRows
import GoSem.ClaimSeven
namespace Go.Proofs.YtbjdbiljkkfklaaDoor
namespace Rows

/-- THE TIED CARD OF 'casematelaw03.ShaTwoBlocks'. -/
def shaTwoBlocksCard : Claim7 := { stood := { row := shaTwoBlocksRow, standIns := [], harness := (true, "91cb5901f707df670105d5a20baa4ed90d479b7ccd219857a5a06152428abcb6"), looks := true }, kinds := [], alts := [], laidByText := true, laidKinds := [.data, .data, .data, .data], laidTests := true, laidLooks := .later }
def ShaTwoBlocksCardSaid : Prop := Claim7.holds Tryd.pinned (.plain (OpenSpec.ofChange shaTwoBlocksSpec)) shaTwoBlocksCard

/-- THE TIED CARD OF 'casematelaw03.ShaOnce'. -/
def shaOnceCard : Claim7 := { stood := { row := shaOnceRow, standIns := [], harness := (true, "91cb5901f707df670105d5a20baa4ed90d479b7ccd219857a5a06152428abcb6"), looks := true }, kinds := [], alts := [], laidByText := true, laidKinds := [.data, .data, .data, .data], laidTests := true, laidLooks := .later }
def ShaOnceCardSaid : Prop := Claim7.holds Tryd.pinned (.plain (OpenSpec.ofChange shaOnceSpec)) shaOnceCard

/-- THE TIED CARD OF 'casematelaw03.ShaKeyed'. -/
def shaKeyedCard : Claim7 := { stood := { row := shaKeyedRow, standIns := [], harness := (true, "91cb5901f707df670105d5a20baa4ed90d479b7ccd219857a5a06152428abcb6"), looks := true }, kinds := [], alts := [], laidByText := true, laidKinds := [.data, .data, .data, .data], laidTests := true, laidLooks := .later }
def ShaKeyedCardSaid : Prop := Claim7.holds Tryd.pinned (.plain (OpenSpec.ofChange shaKeyedSpec)) shaKeyedCard

/-- THE TIED CARD OF 'casematelaw03.ShaSpelt'. -/
def shaSpeltCard : Claim7 := { stood := { row := shaSpeltRow, standIns := [], harness := (true, "91cb5901f707df670105d5a20baa4ed90d479b7ccd219857a5a06152428abcb6"), looks := true }, kinds := [], alts := [], laidByText := true, laidKinds := [.data, .data, .data, .sentinel, .sentinel, .data], laidTests := true, laidLooks := .later }
def ShaSpeltCardSaid : Prop := Claim7.holds Tryd.pinned (.plain (OpenSpec.ofChange shaSpeltSpec)) shaSpeltCard

/-- THE TIED CARD OF 'casematelaw03.ShaSpeltBack'. -/
def shaSpeltBackCard : Claim7 := { stood := { row := shaSpeltBackRow, standIns := [], harness := (true, "91cb5901f707df670105d5a20baa4ed90d479b7ccd219857a5a06152428abcb6"), looks := true }, kinds := [], alts := [], laidByText := true, laidKinds := [.data, .data, .data, .sentinel, .sentinel, .data], laidTests := true, laidLooks := .later }
def ShaSpeltBackCardSaid : Prop := Claim7.holds Tryd.pinned (.plain (OpenSpec.ofChange shaSpeltBackSpec)) shaSpeltBackCard

/-- THE TIED CARD OF 'casematelaw03.ShaKnown'. -/
def shaKnownCard : Claim7 := { stood := { row := shaKnownRow, standIns := [], harness := (true, "91cb5901f707df670105d5a20baa4ed90d479b7ccd219857a5a06152428abcb6"), looks := true }, kinds := [], alts := [], laidByText := true, laidKinds := [.data, .data, .data, .sentinel, .sentinel, .data], laidTests := true, laidLooks := .later }
def ShaKnownCardSaid : Prop := Claim7.holds Tryd.pinned (.plain (OpenSpec.ofChange shaKnownSpec)) shaKnownCard

/-- THE TIED CARD OF 'casematelaw04.HmacSame'. -/
def hmacSameCard : Claim7 := { stood := { row := hmacSameRow, standIns := [], harness := (true, "91cb5901f707df670105d5a20baa4ed90d479b7ccd219857a5a06152428abcb6"), looks := true }, kinds := [], alts := [], laidByText := true, laidKinds := [.data], laidTests := true, laidLooks := .later }
def HmacSameCardSaid : Prop := Claim7.holds Tryd.pinned (.plain (OpenSpec.ofChange hmacSameSpec)) hmacSameCard

/-- THE TIED CARD OF 'casematelaw04.HmacKeys'. -/
def hmacKeysCard : Claim7 := { stood := { row := hmacKeysRow, standIns := [], harness := (true, "91cb5901f707df670105d5a20baa4ed90d479b7ccd219857a5a06152428abcb6"), looks := true }, kinds := [], alts := [], laidByText := true, laidKinds := [.data], laidTests := true, laidLooks := .later }
def HmacKeysCardSaid : Prop := Claim7.holds Tryd.pinned (.plain (OpenSpec.ofChange hmacKeysSpec)) hmacKeysCard

/-- THE TIED CARD OF 'casematelaw04.HmacCut'. -/
def hmacCutCard : Claim7 := { stood := { row := hmacCutRow, standIns := [], harness := (true, "91cb5901f707df670105d5a20baa4ed90d479b7ccd219857a5a06152428abcb6"), looks := true }, kinds := [], alts := [], laidByText := true, laidKinds := [.data], laidTests := true, laidLooks := .later }
def HmacCutCardSaid : Prop := Claim7.holds Tryd.pinned (.plain (OpenSpec.ofChange hmacCutSpec)) hmacCutCard

/-- THE TIED CARD OF 'casematelaw04.HmacKnown'. -/
def hmacKnownCard : Claim7 := { stood := { row := hmacKnownRow, standIns := [], harness := (true, "91cb5901f707df670105d5a20baa4ed90d479b7ccd219857a5a06152428abcb6"), looks := true }, kinds := [], alts := [], laidByText := true, laidKinds := [.data], laidTests := true, laidLooks := .later }
def HmacKnownCardSaid : Prop := Claim7.holds Tryd.pinned (.plain (OpenSpec.ofChange hmacKnownSpec)) hmacKnownCard

/-- THE TIED CARD OF 'casematelaw04.HmacOf'. -/
def hmacOfCard : Claim7 := { stood := { row := hmacOfRow, standIns := [], harness := (true, "91cb5901f707df670105d5a20baa4ed90d479b7ccd219857a5a06152428abcb6"), looks := true }, kinds := [], alts := [], laidByText := true, laidKinds := [.data], laidTests := true, laidLooks := .later }
def HmacOfCardSaid : Prop := Claim7.holds Tryd.pinned (.plain (OpenSpec.ofChange hmacOfSpec)) hmacOfCard

/-- THE TIED CARD OF 'casematelaw04.HmacParts'. -/
def hmacPartsCard : Claim7 := { stood := { row := hmacPartsRow, standIns := [], harness := (true, "91cb5901f707df670105d5a20baa4ed90d479b7ccd219857a5a06152428abcb6"), looks := true }, kinds := [], alts := [], laidByText := true, laidKinds := [.data], laidTests := true, laidLooks := .later }
def HmacPartsCardSaid : Prop := Claim7.holds Tryd.pinned (.plain (OpenSpec.ofChange hmacPartsSpec)) hmacPartsCard

/-- THE TIED CARD OF 'casematelaw04.HmacStretch'. -/
def hmacStretchCard : Claim7 := { stood := { row := hmacStretchRow, standIns := [], harness := (true, "91cb5901f707df670105d5a20baa4ed90d479b7ccd219857a5a06152428abcb6"), looks := true }, kinds := [], alts := [], laidByText := true, laidKinds := [.data], laidTests := true, laidLooks := .later }
def HmacStretchCardSaid : Prop := Claim7.holds Tryd.pinned (.plain (OpenSpec.ofChange hmacStretchSpec)) hmacStretchCard

/-- THE SECOND FORM's CARD OF 'casematelaw03.ShaTwoBlocks'. -/
def shaTwoBlocksUptoCard : Claim7 := { stood := { row := shaTwoBlocksUptoRow, standIns := [], harness := (true, "91cb5901f707df670105d5a20baa4ed90d479b7ccd219857a5a06152428abcb6"), looks := true }, kinds := [], alts := [], laidByText := true, laidKinds := [.data, .data, .data, .data], laidTests := true, laidLooks := .later }
def ShaTwoBlocksUptoCardSaid : Prop := Claim7.holds Tryd.pinned (.plain (OpenSpec.upto shaTwoBlocksSpec)) shaTwoBlocksUptoCard

/-- THE SECOND FORM's CARD OF 'casematelaw03.ShaOnce'. -/
def shaOnceUptoCard : Claim7 := { stood := { row := shaOnceUptoRow, standIns := [], harness := (true, "91cb5901f707df670105d5a20baa4ed90d479b7ccd219857a5a06152428abcb6"), looks := true }, kinds := [], alts := [], laidByText := true, laidKinds := [.data, .data, .data, .data], laidTests := true, laidLooks := .later }
def ShaOnceUptoCardSaid : Prop := Claim7.holds Tryd.pinned (.plain (OpenSpec.upto shaOnceSpec)) shaOnceUptoCard

/-- THE SECOND FORM's CARD OF 'casematelaw03.ShaKeyed'. -/
def shaKeyedUptoCard : Claim7 := { stood := { row := shaKeyedUptoRow, standIns := [], harness := (true, "91cb5901f707df670105d5a20baa4ed90d479b7ccd219857a5a06152428abcb6"), looks := true }, kinds := [], alts := [], laidByText := true, laidKinds := [.data, .data, .data, .data], laidTests := true, laidLooks := .later }
def ShaKeyedUptoCardSaid : Prop := Claim7.holds Tryd.pinned (.plain (OpenSpec.upto shaKeyedSpec)) shaKeyedUptoCard

/-- THE SECOND FORM's CARD OF 'casematelaw03.ShaSpelt'. -/
def shaSpeltUptoCard : Claim7 := { stood := { row := shaSpeltUptoRow, standIns := [], harness := (true, "91cb5901f707df670105d5a20baa4ed90d479b7ccd219857a5a06152428abcb6"), looks := true }, kinds := [], alts := [], laidByText := true, laidKinds := [.data, .data, .data, .sentinel, .sentinel, .data], laidTests := true, laidLooks := .later }
def ShaSpeltUptoCardSaid : Prop := Claim7.holds Tryd.pinned (.plain (OpenSpec.upto shaSpeltSpec)) shaSpeltUptoCard

/-- THE SECOND FORM's CARD OF 'casematelaw03.ShaSpeltBack'. -/
def shaSpeltBackUptoCard : Claim7 := { stood := { row := shaSpeltBackUptoRow, standIns := [], harness := (true, "91cb5901f707df670105d5a20baa4ed90d479b7ccd219857a5a06152428abcb6"), looks := true }, kinds := [], alts := [], laidByText := true, laidKinds := [.data, .data, .data, .sentinel, .sentinel, .data], laidTests := true, laidLooks := .later }
def ShaSpeltBackUptoCardSaid : Prop := Claim7.holds Tryd.pinned (.plain (OpenSpec.upto shaSpeltBackSpec)) shaSpeltBackUptoCard

/-- THE SECOND FORM's CARD OF 'casematelaw03.ShaKnown'. -/
def shaKnownUptoCard : Claim7 := { stood := { row := shaKnownUptoRow, standIns := [], harness := (true, "91cb5901f707df670105d5a20baa4ed90d479b7ccd219857a5a06152428abcb6"), looks := true }, kinds := [], alts := [], laidByText := true, laidKinds := [.data, .data, .data, .sentinel, .sentinel, .data], laidTests := true, laidLooks := .later }
def ShaKnownUptoCardSaid : Prop := Claim7.holds Tryd.pinned (.plain (OpenSpec.upto shaKnownSpec)) shaKnownUptoCard

/-- THE SECOND FORM's CARD OF 'casematelaw04.HmacSame'. -/
def hmacSameUptoCard : Claim7 := { stood := { row := hmacSameUptoRow, standIns := [], harness := (true, "91cb5901f707df670105d5a20baa4ed90d479b7ccd219857a5a06152428abcb6"), looks := true }, kinds := [], alts := [], laidByText := true, laidKinds := [.data], laidTests := true, laidLooks := .later }
def HmacSameUptoCardSaid : Prop := Claim7.holds Tryd.pinned (.plain (OpenSpec.upto hmacSameSpec)) hmacSameUptoCard

/-- THE SECOND FORM's CARD OF 'casematelaw04.HmacKeys'. -/
def hmacKeysUptoCard : Claim7 := { stood := { row := hmacKeysUptoRow, standIns := [], harness := (true, "91cb5901f707df670105d5a20baa4ed90d479b7ccd219857a5a06152428abcb6"), looks := true }, kinds := [], alts := [], laidByText := true, laidKinds := [.data], laidTests := true, laidLooks := .later }
def HmacKeysUptoCardSaid : Prop := Claim7.holds Tryd.pinned (.plain (OpenSpec.upto hmacKeysSpec)) hmacKeysUptoCard

/-- THE SECOND FORM's CARD OF 'casematelaw04.HmacCut'. -/
def hmacCutUptoCard : Claim7 := { stood := { row := hmacCutUptoRow, standIns := [], harness := (true, "91cb5901f707df670105d5a20baa4ed90d479b7ccd219857a5a06152428abcb6"), looks := true }, kinds := [], alts := [], laidByText := true, laidKinds := [.data], laidTests := true, laidLooks := .later }
def HmacCutUptoCardSaid : Prop := Claim7.holds Tryd.pinned (.plain (OpenSpec.upto hmacCutSpec)) hmacCutUptoCard

/-- THE SECOND FORM's CARD OF 'casematelaw04.HmacKnown'. -/
def hmacKnownUptoCard : Claim7 := { stood := { row := hmacKnownUptoRow, standIns := [], harness := (true, "91cb5901f707df670105d5a20baa4ed90d479b7ccd219857a5a06152428abcb6"), looks := true }, kinds := [], alts := [], laidByText := true, laidKinds := [.data], laidTests := true, laidLooks := .later }
def HmacKnownUptoCardSaid : Prop := Claim7.holds Tryd.pinned (.plain (OpenSpec.upto hmacKnownSpec)) hmacKnownUptoCard

/-- THE SECOND FORM's CARD OF 'casematelaw04.HmacOf'. -/
def hmacOfUptoCard : Claim7 := { stood := { row := hmacOfUptoRow, standIns := [], harness := (true, "91cb5901f707df670105d5a20baa4ed90d479b7ccd219857a5a06152428abcb6"), looks := true }, kinds := [], alts := [], laidByText := true, laidKinds := [.data], laidTests := true, laidLooks := .later }
def HmacOfUptoCardSaid : Prop := Claim7.holds Tryd.pinned (.plain (OpenSpec.upto hmacOfSpec)) hmacOfUptoCard

/-- THE SECOND FORM's CARD OF 'casematelaw04.HmacParts'. -/
def hmacPartsUptoCard : Claim7 := { stood := { row := hmacPartsUptoRow, standIns := [], harness := (true, "91cb5901f707df670105d5a20baa4ed90d479b7ccd219857a5a06152428abcb6"), looks := true }, kinds := [], alts := [], laidByText := true, laidKinds := [.data], laidTests := true, laidLooks := .later }
def HmacPartsUptoCardSaid : Prop := Claim7.holds Tryd.pinned (.plain (OpenSpec.upto hmacPartsSpec)) hmacPartsUptoCard

/-- THE SECOND FORM's CARD OF 'casematelaw04.HmacStretch'. -/
def hmacStretchUptoCard : Claim7 := { stood := { row := hmacStretchUptoRow, standIns := [], harness := (true, "91cb5901f707df670105d5a20baa4ed90d479b7ccd219857a5a06152428abcb6"), looks := true }, kinds := [], alts := [], laidByText := true, laidKinds := [.data], laidTests := true, laidLooks := .later }
def HmacStretchUptoCardSaid : Prop := Claim7.holds Tryd.pinned (.plain (OpenSpec.upto hmacStretchSpec)) hmacStretchUptoCard
end Rows
end Go.Proofs.YtbjdbiljkkfklaaDoor
