/-
  DERIVED. GIVEN WITH THE SEED: THE CARDS: each row of YtgenoggafhhgfaaGreatDoorRows.lean that lists a variable, with what it lists TIED to the program's text (the seventh form; the later family's looks); each row that meets fmt, with fmt's text TOLD by the authors' own Lean function (tested against real Go, not proved from fmt's source: count such statements apart). THE CARD IS WHAT COUNTS. Prove the row's statement (the work); the ties are given (YtgenoggafhhgfaaGreatDoorTie.lean); close each card by the builder's one call (the guide's Derived/Test/ToyasCard.lean, 'card_holds'). Laid BY PROGRAM, IN A SANDBOX (cutbox-door.mjs). By AI agents, Wed Nov 11 2026. No macro, syntax, notation, axiom, sorry.
-/
import Derived.Test.YtgenoggafhhgfaaGreatDoorRows
import GoSem.ClaimSeven
namespace Go.Proofs.YtgenoggafhhgfaaGreatDoor
namespace Rows

/-- THE TIED CARD OF 'repriselaw04.DeclFields'. -/
def declFieldsCard : Claim7 := { stood := { row := declFieldsRow, standIns := [], harness := (true, "15ac93654da0b148129d972b5372fdbd2a39889ea57fb8990f197dbd1e9973b4"), looks := true }, kinds := [], alts := [], laidByText := true, laidKinds := [.listed, .data, .data], laidTests := true, laidLooks := .later }
def DeclFieldsCardSaid : Prop := Claim7.holds Tryz.pinned (.plain (OpenSpec.ofChange declFieldsSpec)) declFieldsCard

/-- THE TIED CARD OF 'repriselaw04.DeclListed'. -/
def declListedCard : Claim7 := { stood := { row := declListedRow, standIns := [], harness := (true, "15ac93654da0b148129d972b5372fdbd2a39889ea57fb8990f197dbd1e9973b4"), looks := true }, kinds := [], alts := [], laidByText := true, laidKinds := [.listed, .data, .data], laidTests := true, laidLooks := .later }
def DeclListedCardSaid : Prop := Claim7.holds Tryz.pinned (.plain (OpenSpec.ofChange declListedSpec)) declListedCard

/-- THE TIED CARD OF 'repriselaw04.DeclDecls'. -/
def declDeclsCard : Claim7 := { stood := { row := declDeclsRow, standIns := [], harness := (true, "15ac93654da0b148129d972b5372fdbd2a39889ea57fb8990f197dbd1e9973b4"), looks := true }, kinds := [], alts := [], laidByText := true, laidKinds := [.listed, .data, .data], laidTests := true, laidLooks := .later }
def DeclDeclsCardSaid : Prop := Claim7.holds Tryz.pinned (.plain (OpenSpec.ofChange declDeclsSpec)) declDeclsCard

/-- THE TIED CARD OF 'repriselaw04.DeclChecks'. -/
def declChecksCard : Claim7 := { stood := { row := declChecksRow, standIns := [], harness := (true, "15ac93654da0b148129d972b5372fdbd2a39889ea57fb8990f197dbd1e9973b4"), looks := true }, kinds := [], alts := [], laidByText := true, laidKinds := [.listed, .data, .data], laidTests := true, laidLooks := .later }
def DeclChecksCardSaid : Prop := Claim7.holds Tryz.pinned (.plain (OpenSpec.ofChange declChecksSpec)) declChecksCard

/-- THE TIED CARD OF 'repriselaw04.DeclTypes'. -/
def declTypesCard : Claim7 := { stood := { row := declTypesRow, standIns := [], harness := (true, "15ac93654da0b148129d972b5372fdbd2a39889ea57fb8990f197dbd1e9973b4"), looks := true }, kinds := [], alts := [], laidByText := true, laidKinds := [.listed, .data, .data], laidTests := true, laidLooks := .later }
def DeclTypesCardSaid : Prop := Claim7.holds Tryz.pinned (.plain (OpenSpec.ofChange declTypesSpec)) declTypesCard

/-- THE TIED CARD OF 'repriselaw04.DeclFits'. -/
def declFitsCard : Claim7 := { stood := { row := declFitsRow, standIns := [], harness := (true, "15ac93654da0b148129d972b5372fdbd2a39889ea57fb8990f197dbd1e9973b4"), looks := true }, kinds := [], alts := [], laidByText := true, laidKinds := [.listed, .data, .data], laidTests := true, laidLooks := .later }
def DeclFitsCardSaid : Prop := Claim7.holds Tryz.pinned (.plain (OpenSpec.ofChange declFitsSpec)) declFitsCard

/-- THE TIED CARD OF 'repriselaw04.DeclValues'. -/
def declValuesCard : Claim7 := { stood := { row := declValuesRow, standIns := [], harness := (true, "15ac93654da0b148129d972b5372fdbd2a39889ea57fb8990f197dbd1e9973b4"), looks := true }, kinds := [], alts := [], laidByText := true, laidKinds := [.listed, .data, .data], laidTests := true, laidLooks := .later }
def DeclValuesCardSaid : Prop := Claim7.holds Tryz.pinned (.plain (OpenSpec.ofChange declValuesSpec)) declValuesCard

/-- THE TIED CARD OF 'repriselaw04.DeclKnown'. -/
def declKnownCard : Claim7 := { stood := { row := declKnownRow, standIns := [], harness := (true, "15ac93654da0b148129d972b5372fdbd2a39889ea57fb8990f197dbd1e9973b4"), looks := true }, kinds := [], alts := [], laidByText := true, laidKinds := [.listed, .data, .data], laidTests := true, laidLooks := .later }
def DeclKnownCardSaid : Prop := Claim7.holds Tryz.pinned (.plain (OpenSpec.ofChange declKnownSpec)) declKnownCard

/-- THE TIED CARD OF 'repriselaw04.DeclParts'. -/
def declPartsCard : Claim7 := { stood := { row := declPartsRow, standIns := [], harness := (true, "15ac93654da0b148129d972b5372fdbd2a39889ea57fb8990f197dbd1e9973b4"), looks := true }, kinds := [], alts := [], laidByText := true, laidKinds := [.listed, .data, .data], laidTests := true, laidLooks := .later }
def DeclPartsCardSaid : Prop := Claim7.holds Tryz.pinned (.plain (OpenSpec.ofChange declPartsSpec)) declPartsCard

/-- THE TIED CARD OF 'repriselaw04.DeclFound'. -/
def declFoundCard : Claim7 := { stood := { row := declFoundRow, standIns := [], harness := (true, "15ac93654da0b148129d972b5372fdbd2a39889ea57fb8990f197dbd1e9973b4"), looks := true }, kinds := [], alts := [], laidByText := true, laidKinds := [.listed, .data, .data], laidTests := true, laidLooks := .later }
def DeclFoundCardSaid : Prop := Claim7.holds Tryz.pinned (.plain (OpenSpec.ofChange declFoundSpec)) declFoundCard

/-- THE TIED CARD OF 'repriselaw04.DeclMore'. -/
def declMoreCard : Claim7 := { stood := { row := declMoreRow, standIns := [], harness := (true, "15ac93654da0b148129d972b5372fdbd2a39889ea57fb8990f197dbd1e9973b4"), looks := true }, kinds := [], alts := [], laidByText := true, laidKinds := [.listed, .data, .data], laidTests := true, laidLooks := .later }
def DeclMoreCardSaid : Prop := Claim7.holds Tryz.pinned (.plain (OpenSpec.ofChange declMoreSpec)) declMoreCard

/-- THE SECOND FORM's CARD OF 'repriselaw04.DeclFields'. -/
def declFieldsUptoCard : Claim7 := { stood := { row := declFieldsUptoRow, standIns := [], harness := (true, "15ac93654da0b148129d972b5372fdbd2a39889ea57fb8990f197dbd1e9973b4"), looks := true }, kinds := [], alts := [], laidByText := true, laidKinds := [.listed, .data, .data], laidTests := true, laidLooks := .later }
def DeclFieldsUptoCardSaid : Prop := Claim7.holds Tryz.pinned (.plain (OpenSpec.upto declFieldsSpec)) declFieldsUptoCard

/-- THE SECOND FORM's CARD OF 'repriselaw04.DeclListed'. -/
def declListedUptoCard : Claim7 := { stood := { row := declListedUptoRow, standIns := [], harness := (true, "15ac93654da0b148129d972b5372fdbd2a39889ea57fb8990f197dbd1e9973b4"), looks := true }, kinds := [], alts := [], laidByText := true, laidKinds := [.listed, .data, .data], laidTests := true, laidLooks := .later }
def DeclListedUptoCardSaid : Prop := Claim7.holds Tryz.pinned (.plain (OpenSpec.upto declListedSpec)) declListedUptoCard

/-- THE SECOND FORM's CARD OF 'repriselaw04.DeclDecls'. -/
def declDeclsUptoCard : Claim7 := { stood := { row := declDeclsUptoRow, standIns := [], harness := (true, "15ac93654da0b148129d972b5372fdbd2a39889ea57fb8990f197dbd1e9973b4"), looks := true }, kinds := [], alts := [], laidByText := true, laidKinds := [.listed, .data, .data], laidTests := true, laidLooks := .later }
def DeclDeclsUptoCardSaid : Prop := Claim7.holds Tryz.pinned (.plain (OpenSpec.upto declDeclsSpec)) declDeclsUptoCard

/-- THE SECOND FORM's CARD OF 'repriselaw04.DeclChecks'. -/
def declChecksUptoCard : Claim7 := { stood := { row := declChecksUptoRow, standIns := [], harness := (true, "15ac93654da0b148129d972b5372fdbd2a39889ea57fb8990f197dbd1e9973b4"), looks := true }, kinds := [], alts := [], laidByText := true, laidKinds := [.listed, .data, .data], laidTests := true, laidLooks := .later }
def DeclChecksUptoCardSaid : Prop := Claim7.holds Tryz.pinned (.plain (OpenSpec.upto declChecksSpec)) declChecksUptoCard

/-- THE SECOND FORM's CARD OF 'repriselaw04.DeclTypes'. -/
def declTypesUptoCard : Claim7 := { stood := { row := declTypesUptoRow, standIns := [], harness := (true, "15ac93654da0b148129d972b5372fdbd2a39889ea57fb8990f197dbd1e9973b4"), looks := true }, kinds := [], alts := [], laidByText := true, laidKinds := [.listed, .data, .data], laidTests := true, laidLooks := .later }
def DeclTypesUptoCardSaid : Prop := Claim7.holds Tryz.pinned (.plain (OpenSpec.upto declTypesSpec)) declTypesUptoCard

/-- THE SECOND FORM's CARD OF 'repriselaw04.DeclFits'. -/
def declFitsUptoCard : Claim7 := { stood := { row := declFitsUptoRow, standIns := [], harness := (true, "15ac93654da0b148129d972b5372fdbd2a39889ea57fb8990f197dbd1e9973b4"), looks := true }, kinds := [], alts := [], laidByText := true, laidKinds := [.listed, .data, .data], laidTests := true, laidLooks := .later }
def DeclFitsUptoCardSaid : Prop := Claim7.holds Tryz.pinned (.plain (OpenSpec.upto declFitsSpec)) declFitsUptoCard

/-- THE SECOND FORM's CARD OF 'repriselaw04.DeclValues'. -/
def declValuesUptoCard : Claim7 := { stood := { row := declValuesUptoRow, standIns := [], harness := (true, "15ac93654da0b148129d972b5372fdbd2a39889ea57fb8990f197dbd1e9973b4"), looks := true }, kinds := [], alts := [], laidByText := true, laidKinds := [.listed, .data, .data], laidTests := true, laidLooks := .later }
def DeclValuesUptoCardSaid : Prop := Claim7.holds Tryz.pinned (.plain (OpenSpec.upto declValuesSpec)) declValuesUptoCard

/-- THE SECOND FORM's CARD OF 'repriselaw04.DeclKnown'. -/
def declKnownUptoCard : Claim7 := { stood := { row := declKnownUptoRow, standIns := [], harness := (true, "15ac93654da0b148129d972b5372fdbd2a39889ea57fb8990f197dbd1e9973b4"), looks := true }, kinds := [], alts := [], laidByText := true, laidKinds := [.listed, .data, .data], laidTests := true, laidLooks := .later }
def DeclKnownUptoCardSaid : Prop := Claim7.holds Tryz.pinned (.plain (OpenSpec.upto declKnownSpec)) declKnownUptoCard

/-- THE SECOND FORM's CARD OF 'repriselaw04.DeclParts'. -/
def declPartsUptoCard : Claim7 := { stood := { row := declPartsUptoRow, standIns := [], harness := (true, "15ac93654da0b148129d972b5372fdbd2a39889ea57fb8990f197dbd1e9973b4"), looks := true }, kinds := [], alts := [], laidByText := true, laidKinds := [.listed, .data, .data], laidTests := true, laidLooks := .later }
def DeclPartsUptoCardSaid : Prop := Claim7.holds Tryz.pinned (.plain (OpenSpec.upto declPartsSpec)) declPartsUptoCard

/-- THE SECOND FORM's CARD OF 'repriselaw04.DeclFound'. -/
def declFoundUptoCard : Claim7 := { stood := { row := declFoundUptoRow, standIns := [], harness := (true, "15ac93654da0b148129d972b5372fdbd2a39889ea57fb8990f197dbd1e9973b4"), looks := true }, kinds := [], alts := [], laidByText := true, laidKinds := [.listed, .data, .data], laidTests := true, laidLooks := .later }
def DeclFoundUptoCardSaid : Prop := Claim7.holds Tryz.pinned (.plain (OpenSpec.upto declFoundSpec)) declFoundUptoCard

/-- THE SECOND FORM's CARD OF 'repriselaw04.DeclMore'. -/
def declMoreUptoCard : Claim7 := { stood := { row := declMoreUptoRow, standIns := [], harness := (true, "15ac93654da0b148129d972b5372fdbd2a39889ea57fb8990f197dbd1e9973b4"), looks := true }, kinds := [], alts := [], laidByText := true, laidKinds := [.listed, .data, .data], laidTests := true, laidLooks := .later }
def DeclMoreUptoCardSaid : Prop := Claim7.holds Tryz.pinned (.plain (OpenSpec.upto declMoreSpec)) declMoreUptoCard
end Rows
end Go.Proofs.YtgenoggafhhgfaaGreatDoor
