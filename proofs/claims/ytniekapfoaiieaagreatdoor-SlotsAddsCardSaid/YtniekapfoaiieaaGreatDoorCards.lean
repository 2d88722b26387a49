/-
  DERIVED. GIVEN WITH THE SEED: THE CARDS: each row of YtniekapfoaiieaaGreatDoorRows.lean that lists a variable, with what it lists TIED to the program's text (the seventh form; the later family's looks); each row that meets fmt, with fmt's text TOLD by the authors' own Lean function (tested against real Go, not proved from fmt's source: count such statements apart). THE CARD IS WHAT COUNTS. Prove the row's statement (the work); the ties are given (YtniekapfoaiieaaGreatDoorTie.lean); close each card by the builder's one call (the guide's Derived/Test/ToyasCard.lean, 'card_holds'). Laid BY PROGRAM, IN A SANDBOX (cutbox-door.mjs). By AI agents, Wed Nov 11 2026. No macro, syntax, notation, axiom, sorry.
-/
import Derived.Test.YtniekapfoaiieaaGreatDoorRows
import GoSem.ClaimSeven
namespace Go.Proofs.YtniekapfoaiieaaGreatDoor
namespace Rows

/-- THE TIED CARD OF 'casematelaw25.SlotsAdds'. -/
def slotsAddsCard : Claim7 := { stood := { row := slotsAddsRow, standIns := [], harness := (true, "992bed7fd3dfcea431d633f74fab77873c66636efb1785a5552fbdf2f9aa4938"), looks := false }, kinds := [], alts := [], laidByText := true, laidKinds := [.data, .data, .data, .data], laidTests := true, laidLooks := .later }
def SlotsAddsCardSaid : Prop := Claim7.holds Tryz.pinned (.plain (OpenSpec.ofChange slotsAddsSpec)) slotsAddsCard

/-- THE SECOND FORM's CARD OF 'casematelaw25.SlotsAdds'. -/
def slotsAddsUptoCard : Claim7 := { stood := { row := slotsAddsUptoRow, standIns := [], harness := (true, "992bed7fd3dfcea431d633f74fab77873c66636efb1785a5552fbdf2f9aa4938"), looks := false }, kinds := [], alts := [], laidByText := true, laidKinds := [.data, .data, .data, .data], laidTests := true, laidLooks := .later }
def SlotsAddsUptoCardSaid : Prop := Claim7.holds Tryz.pinned (.plain (OpenSpec.upto slotsAddsSpec)) slotsAddsUptoCard
end Rows
end Go.Proofs.YtniekapfoaiieaaGreatDoor
