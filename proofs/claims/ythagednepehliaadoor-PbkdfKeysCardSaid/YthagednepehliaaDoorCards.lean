/-
  DERIVED. GIVEN WITH THE SEED: THE CARDS: each row of YthagednepehliaaDoorRows.lean that lists a variable, with what it lists TIED to the program's text (the seventh form; the later family's looks); each row that meets fmt, with fmt's text TOLD by the authors' own Lean function (tested against real Go, not proved from fmt's source: count such statements apart). THE CARD IS WHAT COUNTS. Prove the row's statement (the work); the ties are given (YthagednepehliaaDoorTie.lean); close each card by the builder's one call (the guide's Derived/Test/ToyasCard.lean, 'card_holds'). Laid BY PROGRAM, IN A SANDBOX (cutbox-door.mjs). By AI agents, Wed Nov 11 2026. No macro, syntax, notation, axiom, sorry.
-/
import Derived.Test.YthagednepehliaaDoorRows
import GoSem.ClaimSeven
namespace Go.Proofs.YthagednepehliaaDoor
namespace Rows

/-- THE TIED CARD OF 'casematelaw05.PbkdfPasses'. -/
def pbkdfPassesCard : Claim7 := { stood := { row := pbkdfPassesRow, standIns := [], harness := (true, "6fc7720c1af2613af465590a04043e064699da455281c70e9b23793a063f4041"), looks := false }, kinds := [], alts := [], laidByText := true, laidKinds := [.data], laidTests := true, laidLooks := .later }
def PbkdfPassesCardSaid : Prop := Claim7.holds Tryd.pinned (.plain (OpenSpec.ofChange pbkdfPassesSpec)) pbkdfPassesCard

/-- THE TIED CARD OF 'casematelaw05.PbkdfKnown'. -/
def pbkdfKnownCard : Claim7 := { stood := { row := pbkdfKnownRow, standIns := [], harness := (true, "6fc7720c1af2613af465590a04043e064699da455281c70e9b23793a063f4041"), looks := false }, kinds := [], alts := [], laidByText := true, laidKinds := [.data], laidTests := true, laidLooks := .later }
def PbkdfKnownCardSaid : Prop := Claim7.holds Tryd.pinned (.plain (OpenSpec.ofChange pbkdfKnownSpec)) pbkdfKnownCard

/-- THE TIED CARD OF 'casematelaw05.PbkdfBegins'. -/
def pbkdfBeginsCard : Claim7 := { stood := { row := pbkdfBeginsRow, standIns := [], harness := (true, "6fc7720c1af2613af465590a04043e064699da455281c70e9b23793a063f4041"), looks := false }, kinds := [], alts := [], laidByText := true, laidKinds := [.data], laidTests := true, laidLooks := .later }
def PbkdfBeginsCardSaid : Prop := Claim7.holds Tryd.pinned (.plain (OpenSpec.ofChange pbkdfBeginsSpec)) pbkdfBeginsCard

/-- THE TIED CARD OF 'casematelaw05.PbkdfApart'. -/
def pbkdfApartCard : Claim7 := { stood := { row := pbkdfApartRow, standIns := [], harness := (true, "6fc7720c1af2613af465590a04043e064699da455281c70e9b23793a063f4041"), looks := false }, kinds := [], alts := [], laidByText := true, laidKinds := [.data], laidTests := true, laidLooks := .later }
def PbkdfApartCardSaid : Prop := Claim7.holds Tryd.pinned (.plain (OpenSpec.ofChange pbkdfApartSpec)) pbkdfApartCard

/-- THE TIED CARD OF 'casematelaw05.PbkdfRounds'. -/
def pbkdfRoundsCard : Claim7 := { stood := { row := pbkdfRoundsRow, standIns := [], harness := (true, "6fc7720c1af2613af465590a04043e064699da455281c70e9b23793a063f4041"), looks := false }, kinds := [], alts := [], laidByText := true, laidKinds := [.data], laidTests := true, laidLooks := .later }
def PbkdfRoundsCardSaid : Prop := Claim7.holds Tryd.pinned (.plain (OpenSpec.ofChange pbkdfRoundsSpec)) pbkdfRoundsCard

/-- THE TIED CARD OF 'casematelaw09.DeriveKnown'. -/
def deriveKnownCard : Claim7 := { stood := { row := deriveKnownRow, standIns := [], harness := (true, "6fc7720c1af2613af465590a04043e064699da455281c70e9b23793a063f4041"), looks := false }, kinds := [], alts := [], laidByText := true, laidKinds := [.data], laidTests := true, laidLooks := .later }
def DeriveKnownCardSaid : Prop := Claim7.holds Tryd.pinned (.plain (OpenSpec.ofChange deriveKnownSpec)) deriveKnownCard

/-- THE TIED CARD OF 'casematelaw09.DeriveSubs'. -/
def deriveSubsCard : Claim7 := { stood := { row := deriveSubsRow, standIns := [], harness := (true, "6fc7720c1af2613af465590a04043e064699da455281c70e9b23793a063f4041"), looks := false }, kinds := [], alts := [], laidByText := true, laidKinds := [.data], laidTests := true, laidLooks := .later }
def DeriveSubsCardSaid : Prop := Claim7.holds Tryd.pinned (.plain (OpenSpec.ofChange deriveSubsSpec)) deriveSubsCard

/-- THE TIED CARD OF 'casematelaw05.PbkdfKeys'. -/
def pbkdfKeysCard : Claim7 := { stood := { row := pbkdfKeysRow, standIns := [], harness := (true, "6fc7720c1af2613af465590a04043e064699da455281c70e9b23793a063f4041"), looks := false }, kinds := [], alts := [], laidByText := true, laidKinds := [.data], laidTests := true, laidLooks := .later }
def PbkdfKeysCardSaid : Prop := Claim7.holds Tryd.pinned (.plain (OpenSpec.ofChange pbkdfKeysSpec)) pbkdfKeysCard

/-- THE TIED CARD OF 'casematelaw09.DeriveSets'. -/
def deriveSetsCard : Claim7 := { stood := { row := deriveSetsRow, standIns := [], harness := (true, "6fc7720c1af2613af465590a04043e064699da455281c70e9b23793a063f4041"), looks := false }, kinds := [], alts := [], laidByText := true, laidKinds := [.data], laidTests := true, laidLooks := .later }
def DeriveSetsCardSaid : Prop := Claim7.holds Tryd.pinned (.plain (OpenSpec.ofChange deriveSetsSpec)) deriveSetsCard

/-- THE TIED CARD OF 'casematelaw09.DeriveRows'. -/
def deriveRowsCard : Claim7 := { stood := { row := deriveRowsRow, standIns := [], harness := (true, "6fc7720c1af2613af465590a04043e064699da455281c70e9b23793a063f4041"), looks := false }, kinds := [], alts := [], laidByText := true, laidKinds := [.data], laidTests := true, laidLooks := .later }
def DeriveRowsCardSaid : Prop := Claim7.holds Tryd.pinned (.plain (OpenSpec.ofChange deriveRowsSpec)) deriveRowsCard

/-- THE SECOND FORM's CARD OF 'casematelaw05.PbkdfPasses'. -/
def pbkdfPassesUptoCard : Claim7 := { stood := { row := pbkdfPassesUptoRow, standIns := [], harness := (true, "6fc7720c1af2613af465590a04043e064699da455281c70e9b23793a063f4041"), looks := false }, kinds := [], alts := [], laidByText := true, laidKinds := [.data], laidTests := true, laidLooks := .later }
def PbkdfPassesUptoCardSaid : Prop := Claim7.holds Tryd.pinned (.plain (OpenSpec.upto pbkdfPassesSpec)) pbkdfPassesUptoCard

/-- THE SECOND FORM's CARD OF 'casematelaw05.PbkdfKnown'. -/
def pbkdfKnownUptoCard : Claim7 := { stood := { row := pbkdfKnownUptoRow, standIns := [], harness := (true, "6fc7720c1af2613af465590a04043e064699da455281c70e9b23793a063f4041"), looks := false }, kinds := [], alts := [], laidByText := true, laidKinds := [.data], laidTests := true, laidLooks := .later }
def PbkdfKnownUptoCardSaid : Prop := Claim7.holds Tryd.pinned (.plain (OpenSpec.upto pbkdfKnownSpec)) pbkdfKnownUptoCard

/-- THE SECOND FORM's CARD OF 'casematelaw05.PbkdfBegins'. -/
def pbkdfBeginsUptoCard : Claim7 := { stood := { row := pbkdfBeginsUptoRow, standIns := [], harness := (true, "6fc7720c1af2613af465590a04043e064699da455281c70e9b23793a063f4041"), looks := false }, kinds := [], alts := [], laidByText := true, laidKinds := [.data], laidTests := true, laidLooks := .later }
def PbkdfBeginsUptoCardSaid : Prop := Claim7.holds Tryd.pinned (.plain (OpenSpec.upto pbkdfBeginsSpec)) pbkdfBeginsUptoCard

/-- THE SECOND FORM's CARD OF 'casematelaw05.PbkdfApart'. -/
def pbkdfApartUptoCard : Claim7 := { stood := { row := pbkdfApartUptoRow, standIns := [], harness := (true, "6fc7720c1af2613af465590a04043e064699da455281c70e9b23793a063f4041"), looks := false }, kinds := [], alts := [], laidByText := true, laidKinds := [.data], laidTests := true, laidLooks := .later }
def PbkdfApartUptoCardSaid : Prop := Claim7.holds Tryd.pinned (.plain (OpenSpec.upto pbkdfApartSpec)) pbkdfApartUptoCard

/-- THE SECOND FORM's CARD OF 'casematelaw05.PbkdfRounds'. -/
def pbkdfRoundsUptoCard : Claim7 := { stood := { row := pbkdfRoundsUptoRow, standIns := [], harness := (true, "6fc7720c1af2613af465590a04043e064699da455281c70e9b23793a063f4041"), looks := false }, kinds := [], alts := [], laidByText := true, laidKinds := [.data], laidTests := true, laidLooks := .later }
def PbkdfRoundsUptoCardSaid : Prop := Claim7.holds Tryd.pinned (.plain (OpenSpec.upto pbkdfRoundsSpec)) pbkdfRoundsUptoCard

/-- THE SECOND FORM's CARD OF 'casematelaw09.DeriveKnown'. -/
def deriveKnownUptoCard : Claim7 := { stood := { row := deriveKnownUptoRow, standIns := [], harness := (true, "6fc7720c1af2613af465590a04043e064699da455281c70e9b23793a063f4041"), looks := false }, kinds := [], alts := [], laidByText := true, laidKinds := [.data], laidTests := true, laidLooks := .later }
def DeriveKnownUptoCardSaid : Prop := Claim7.holds Tryd.pinned (.plain (OpenSpec.upto deriveKnownSpec)) deriveKnownUptoCard

/-- THE SECOND FORM's CARD OF 'casematelaw09.DeriveSubs'. -/
def deriveSubsUptoCard : Claim7 := { stood := { row := deriveSubsUptoRow, standIns := [], harness := (true, "6fc7720c1af2613af465590a04043e064699da455281c70e9b23793a063f4041"), looks := false }, kinds := [], alts := [], laidByText := true, laidKinds := [.data], laidTests := true, laidLooks := .later }
def DeriveSubsUptoCardSaid : Prop := Claim7.holds Tryd.pinned (.plain (OpenSpec.upto deriveSubsSpec)) deriveSubsUptoCard

/-- THE SECOND FORM's CARD OF 'casematelaw05.PbkdfKeys'. -/
def pbkdfKeysUptoCard : Claim7 := { stood := { row := pbkdfKeysUptoRow, standIns := [], harness := (true, "6fc7720c1af2613af465590a04043e064699da455281c70e9b23793a063f4041"), looks := false }, kinds := [], alts := [], laidByText := true, laidKinds := [.data], laidTests := true, laidLooks := .later }
def PbkdfKeysUptoCardSaid : Prop := Claim7.holds Tryd.pinned (.plain (OpenSpec.upto pbkdfKeysSpec)) pbkdfKeysUptoCard

/-- THE SECOND FORM's CARD OF 'casematelaw09.DeriveSets'. -/
def deriveSetsUptoCard : Claim7 := { stood := { row := deriveSetsUptoRow, standIns := [], harness := (true, "6fc7720c1af2613af465590a04043e064699da455281c70e9b23793a063f4041"), looks := false }, kinds := [], alts := [], laidByText := true, laidKinds := [.data], laidTests := true, laidLooks := .later }
def DeriveSetsUptoCardSaid : Prop := Claim7.holds Tryd.pinned (.plain (OpenSpec.upto deriveSetsSpec)) deriveSetsUptoCard

/-- THE SECOND FORM's CARD OF 'casematelaw09.DeriveRows'. -/
def deriveRowsUptoCard : Claim7 := { stood := { row := deriveRowsUptoRow, standIns := [], harness := (true, "6fc7720c1af2613af465590a04043e064699da455281c70e9b23793a063f4041"), looks := false }, kinds := [], alts := [], laidByText := true, laidKinds := [.data], laidTests := true, laidLooks := .later }
def DeriveRowsUptoCardSaid : Prop := Claim7.holds Tryd.pinned (.plain (OpenSpec.upto deriveRowsSpec)) deriveRowsUptoCard
end Rows
end Go.Proofs.YthagednepehliaaDoor
