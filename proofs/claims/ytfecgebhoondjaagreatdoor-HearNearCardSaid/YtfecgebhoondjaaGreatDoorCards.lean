/-
  DERIVED. GIVEN WITH THE SEED: THE CARDS: each row of YtfecgebhoondjaaGreatDoorRows.lean that lists a variable, with what it lists TIED to the program's text (the seventh form; the later family's looks); each row that meets fmt, with fmt's text TOLD by the authors' own Lean function (tested against real Go, not proved from fmt's source: count such statements apart). THE CARD IS WHAT COUNTS. Prove the row's statement (the work); the ties are given (YtfecgebhoondjaaGreatDoorTie.lean); close each card by the builder's one call (the guide's Derived/Test/ToyasCard.lean, 'card_holds'). Laid BY PROGRAM, IN A SANDBOX (cutbox-door.mjs). By AI agents, Wed Nov 11 2026. No macro, syntax, notation, axiom, sorry.
-/
import Derived.Test.YtfecgebhoondjaaGreatDoorRows
import GoSem.ClaimSeven
namespace Go.Proofs.YtfecgebhoondjaaGreatDoor
namespace Rows

/-- THE TIED CARD OF 'gazetteerlaw42.HearMatchesReference'. -/
def hearMatchesReferenceCard : Claim7 := { stood := { row := hearMatchesReferenceRow, standIns := [], harness := (true, "3261ca167561defd72c63f91808e92b7960b1e295dc2b495d7e9561e79094b2c"), looks := true }, kinds := [], alts := [], laidByText := true, laidKinds := [.data, .data, .data, .sentinel, .sentinel], laidTests := true, laidLooks := .later }
def HearMatchesReferenceCardSaid : Prop := Claim7.holds Tryz.pinned (.plain (OpenSpec.ofChange hearMatchesReferenceSpec)) hearMatchesReferenceCard

/-- THE TIED CARD OF 'gazetteerlaw42.HearCorrects'. -/
def hearCorrectsCard : Claim7 := { stood := { row := hearCorrectsRow, standIns := [], harness := (true, "3261ca167561defd72c63f91808e92b7960b1e295dc2b495d7e9561e79094b2c"), looks := true }, kinds := [], alts := [], laidByText := true, laidKinds := [.data, .data, .data, .sentinel, .sentinel], laidTests := true, laidLooks := .later }
def HearCorrectsCardSaid : Prop := Claim7.holds Tryz.pinned (.plain (OpenSpec.ofChange hearCorrectsSpec)) hearCorrectsCard

/-- THE TIED CARD OF 'gazetteerlaw42.HearOrder'. -/
def hearOrderCard : Claim7 := { stood := { row := hearOrderRow, standIns := [], harness := (true, "3261ca167561defd72c63f91808e92b7960b1e295dc2b495d7e9561e79094b2c"), looks := true }, kinds := [], alts := [], laidByText := true, laidKinds := [.data, .data, .data, .sentinel, .sentinel], laidTests := true, laidLooks := .later }
def HearOrderCardSaid : Prop := Claim7.holds Tryz.pinned (.plain (OpenSpec.ofChange hearOrderSpec)) hearOrderCard

/-- THE TIED CARD OF 'gazetteerlaw42.HearFurther'. -/
def hearFurtherCard : Claim7 := { stood := { row := hearFurtherRow, standIns := [], harness := (true, "3261ca167561defd72c63f91808e92b7960b1e295dc2b495d7e9561e79094b2c"), looks := true }, kinds := [], alts := [], laidByText := true, laidKinds := [.data, .data, .data, .sentinel, .sentinel], laidTests := true, laidLooks := .later }
def HearFurtherCardSaid : Prop := Claim7.holds Tryz.pinned (.plain (OpenSpec.ofChange hearFurtherSpec)) hearFurtherCard

/-- THE TIED CARD OF 'gazetteerlaw41.CodeMatchesReference'. -/
def codeMatchesReferenceCard : Claim7 := { stood := { row := codeMatchesReferenceRow, standIns := [], harness := (true, "3261ca167561defd72c63f91808e92b7960b1e295dc2b495d7e9561e79094b2c"), looks := true }, kinds := [], alts := [], laidByText := true, laidKinds := [.data, .data, .data, .sentinel, .sentinel], laidTests := true, laidLooks := .later }
def CodeMatchesReferenceCardSaid : Prop := Claim7.holds Tryz.pinned (.plain (OpenSpec.ofChange codeMatchesReferenceSpec)) codeMatchesReferenceCard

/-- THE TIED CARD OF 'gazetteerlaw41.CodeMistakes'. -/
def codeMistakesCard : Claim7 := { stood := { row := codeMistakesRow, standIns := [], harness := (true, "3261ca167561defd72c63f91808e92b7960b1e295dc2b495d7e9561e79094b2c"), looks := true }, kinds := [], alts := [], laidByText := true, laidKinds := [.data, .data, .data, .sentinel, .sentinel], laidTests := true, laidLooks := .later }
def CodeMistakesCardSaid : Prop := Claim7.holds Tryz.pinned (.plain (OpenSpec.ofChange codeMistakesSpec)) codeMistakesCard

/-- THE TIED CARD OF 'gazetteerlaw41.CodeGives'. -/
def codeGivesCard : Claim7 := { stood := { row := codeGivesRow, standIns := [], harness := (true, "3261ca167561defd72c63f91808e92b7960b1e295dc2b495d7e9561e79094b2c"), looks := true }, kinds := [], alts := [], laidByText := true, laidKinds := [.data, .data, .data, .sentinel, .sentinel], laidTests := true, laidLooks := .later }
def CodeGivesCardSaid : Prop := Claim7.holds Tryz.pinned (.plain (OpenSpec.ofChange codeGivesSpec)) codeGivesCard

/-- THE TIED CARD OF 'gazetteerlaw41.CodeApart'. -/
def codeApartCard : Claim7 := { stood := { row := codeApartRow, standIns := [], harness := (true, "3261ca167561defd72c63f91808e92b7960b1e295dc2b495d7e9561e79094b2c"), looks := true }, kinds := [], alts := [], laidByText := true, laidKinds := [.data, .data, .data, .sentinel, .sentinel], laidTests := true, laidLooks := .later }
def CodeApartCardSaid : Prop := Claim7.holds Tryz.pinned (.plain (OpenSpec.ofChange codeApartSpec)) codeApartCard

/-- THE TIED CARD OF 'gazetteerlaw41.CodeNear'. -/
def codeNearCard : Claim7 := { stood := { row := codeNearRow, standIns := [], harness := (true, "3261ca167561defd72c63f91808e92b7960b1e295dc2b495d7e9561e79094b2c"), looks := true }, kinds := [], alts := [], laidByText := true, laidKinds := [.data, .data, .data, .sentinel, .sentinel], laidTests := true, laidLooks := .later }
def CodeNearCardSaid : Prop := Claim7.holds Tryz.pinned (.plain (OpenSpec.ofChange codeNearSpec)) codeNearCard

/-- THE TIED CARD OF 'gazetteerlaw41.CodeBooks'. -/
def codeBooksCard : Claim7 := { stood := { row := codeBooksRow, standIns := [], harness := (true, "3261ca167561defd72c63f91808e92b7960b1e295dc2b495d7e9561e79094b2c"), looks := true }, kinds := [], alts := [], laidByText := true, laidKinds := [.data, .data, .data, .sentinel, .sentinel], laidTests := true, laidLooks := .later }
def CodeBooksCardSaid : Prop := Claim7.holds Tryz.pinned (.plain (OpenSpec.ofChange codeBooksSpec)) codeBooksCard

/-- THE TIED CARD OF 'gazetteerlaw41.CodeTexts'. -/
def codeTextsCard : Claim7 := { stood := { row := codeTextsRow, standIns := [], harness := (true, "3261ca167561defd72c63f91808e92b7960b1e295dc2b495d7e9561e79094b2c"), looks := true }, kinds := [], alts := [], laidByText := true, laidKinds := [.data, .data, .data, .sentinel, .sentinel], laidTests := true, laidLooks := .later }
def CodeTextsCardSaid : Prop := Claim7.holds Tryz.pinned (.plain (OpenSpec.ofChange codeTextsSpec)) codeTextsCard

/-- THE TIED CARD OF 'gazetteerlaw42.HearNever'. -/
def hearNeverCard : Claim7 := { stood := { row := hearNeverRow, standIns := [], harness := (true, "3261ca167561defd72c63f91808e92b7960b1e295dc2b495d7e9561e79094b2c"), looks := true }, kinds := [], alts := [], laidByText := true, laidKinds := [.data, .data, .data, .sentinel, .sentinel], laidTests := true, laidLooks := .later }
def HearNeverCardSaid : Prop := Claim7.holds Tryz.pinned (.plain (OpenSpec.ofChange hearNeverSpec)) hearNeverCard

/-- THE TIED CARD OF 'gazetteerlaw42.HearNear'. -/
def hearNearCard : Claim7 := { stood := { row := hearNearRow, standIns := [], harness := (true, "3261ca167561defd72c63f91808e92b7960b1e295dc2b495d7e9561e79094b2c"), looks := true }, kinds := [], alts := [], laidByText := true, laidKinds := [.data, .data, .data, .sentinel, .sentinel], laidTests := true, laidLooks := .later }
def HearNearCardSaid : Prop := Claim7.holds Tryz.pinned (.plain (OpenSpec.ofChange hearNearSpec)) hearNearCard

/-- THE SECOND FORM's CARD OF 'gazetteerlaw42.HearMatchesReference'. -/
def hearMatchesReferenceUptoCard : Claim7 := { stood := { row := hearMatchesReferenceUptoRow, standIns := [], harness := (true, "3261ca167561defd72c63f91808e92b7960b1e295dc2b495d7e9561e79094b2c"), looks := true }, kinds := [], alts := [], laidByText := true, laidKinds := [.data, .data, .data, .sentinel, .sentinel], laidTests := true, laidLooks := .later }
def HearMatchesReferenceUptoCardSaid : Prop := Claim7.holds Tryz.pinned (.plain (OpenSpec.upto hearMatchesReferenceSpec)) hearMatchesReferenceUptoCard

/-- THE SECOND FORM's CARD OF 'gazetteerlaw42.HearCorrects'. -/
def hearCorrectsUptoCard : Claim7 := { stood := { row := hearCorrectsUptoRow, standIns := [], harness := (true, "3261ca167561defd72c63f91808e92b7960b1e295dc2b495d7e9561e79094b2c"), looks := true }, kinds := [], alts := [], laidByText := true, laidKinds := [.data, .data, .data, .sentinel, .sentinel], laidTests := true, laidLooks := .later }
def HearCorrectsUptoCardSaid : Prop := Claim7.holds Tryz.pinned (.plain (OpenSpec.upto hearCorrectsSpec)) hearCorrectsUptoCard

/-- THE SECOND FORM's CARD OF 'gazetteerlaw42.HearOrder'. -/
def hearOrderUptoCard : Claim7 := { stood := { row := hearOrderUptoRow, standIns := [], harness := (true, "3261ca167561defd72c63f91808e92b7960b1e295dc2b495d7e9561e79094b2c"), looks := true }, kinds := [], alts := [], laidByText := true, laidKinds := [.data, .data, .data, .sentinel, .sentinel], laidTests := true, laidLooks := .later }
def HearOrderUptoCardSaid : Prop := Claim7.holds Tryz.pinned (.plain (OpenSpec.upto hearOrderSpec)) hearOrderUptoCard

/-- THE SECOND FORM's CARD OF 'gazetteerlaw42.HearFurther'. -/
def hearFurtherUptoCard : Claim7 := { stood := { row := hearFurtherUptoRow, standIns := [], harness := (true, "3261ca167561defd72c63f91808e92b7960b1e295dc2b495d7e9561e79094b2c"), looks := true }, kinds := [], alts := [], laidByText := true, laidKinds := [.data, .data, .data, .sentinel, .sentinel], laidTests := true, laidLooks := .later }
def HearFurtherUptoCardSaid : Prop := Claim7.holds Tryz.pinned (.plain (OpenSpec.upto hearFurtherSpec)) hearFurtherUptoCard

/-- THE SECOND FORM's CARD OF 'gazetteerlaw41.CodeMatchesReference'. -/
def codeMatchesReferenceUptoCard : Claim7 := { stood := { row := codeMatchesReferenceUptoRow, standIns := [], harness := (true, "3261ca167561defd72c63f91808e92b7960b1e295dc2b495d7e9561e79094b2c"), looks := true }, kinds := [], alts := [], laidByText := true, laidKinds := [.data, .data, .data, .sentinel, .sentinel], laidTests := true, laidLooks := .later }
def CodeMatchesReferenceUptoCardSaid : Prop := Claim7.holds Tryz.pinned (.plain (OpenSpec.upto codeMatchesReferenceSpec)) codeMatchesReferenceUptoCard

/-- THE SECOND FORM's CARD OF 'gazetteerlaw41.CodeMistakes'. -/
def codeMistakesUptoCard : Claim7 := { stood := { row := codeMistakesUptoRow, standIns := [], harness := (true, "3261ca167561defd72c63f91808e92b7960b1e295dc2b495d7e9561e79094b2c"), looks := true }, kinds := [], alts := [], laidByText := true, laidKinds := [.data, .data, .data, .sentinel, .sentinel], laidTests := true, laidLooks := .later }
def CodeMistakesUptoCardSaid : Prop := Claim7.holds Tryz.pinned (.plain (OpenSpec.upto codeMistakesSpec)) codeMistakesUptoCard

/-- THE SECOND FORM's CARD OF 'gazetteerlaw41.CodeGives'. -/
def codeGivesUptoCard : Claim7 := { stood := { row := codeGivesUptoRow, standIns := [], harness := (true, "3261ca167561defd72c63f91808e92b7960b1e295dc2b495d7e9561e79094b2c"), looks := true }, kinds := [], alts := [], laidByText := true, laidKinds := [.data, .data, .data, .sentinel, .sentinel], laidTests := true, laidLooks := .later }
def CodeGivesUptoCardSaid : Prop := Claim7.holds Tryz.pinned (.plain (OpenSpec.upto codeGivesSpec)) codeGivesUptoCard

/-- THE SECOND FORM's CARD OF 'gazetteerlaw41.CodeApart'. -/
def codeApartUptoCard : Claim7 := { stood := { row := codeApartUptoRow, standIns := [], harness := (true, "3261ca167561defd72c63f91808e92b7960b1e295dc2b495d7e9561e79094b2c"), looks := true }, kinds := [], alts := [], laidByText := true, laidKinds := [.data, .data, .data, .sentinel, .sentinel], laidTests := true, laidLooks := .later }
def CodeApartUptoCardSaid : Prop := Claim7.holds Tryz.pinned (.plain (OpenSpec.upto codeApartSpec)) codeApartUptoCard

/-- THE SECOND FORM's CARD OF 'gazetteerlaw41.CodeNear'. -/
def codeNearUptoCard : Claim7 := { stood := { row := codeNearUptoRow, standIns := [], harness := (true, "3261ca167561defd72c63f91808e92b7960b1e295dc2b495d7e9561e79094b2c"), looks := true }, kinds := [], alts := [], laidByText := true, laidKinds := [.data, .data, .data, .sentinel, .sentinel], laidTests := true, laidLooks := .later }
def CodeNearUptoCardSaid : Prop := Claim7.holds Tryz.pinned (.plain (OpenSpec.upto codeNearSpec)) codeNearUptoCard

/-- THE SECOND FORM's CARD OF 'gazetteerlaw41.CodeBooks'. -/
def codeBooksUptoCard : Claim7 := { stood := { row := codeBooksUptoRow, standIns := [], harness := (true, "3261ca167561defd72c63f91808e92b7960b1e295dc2b495d7e9561e79094b2c"), looks := true }, kinds := [], alts := [], laidByText := true, laidKinds := [.data, .data, .data, .sentinel, .sentinel], laidTests := true, laidLooks := .later }
def CodeBooksUptoCardSaid : Prop := Claim7.holds Tryz.pinned (.plain (OpenSpec.upto codeBooksSpec)) codeBooksUptoCard

/-- THE SECOND FORM's CARD OF 'gazetteerlaw41.CodeTexts'. -/
def codeTextsUptoCard : Claim7 := { stood := { row := codeTextsUptoRow, standIns := [], harness := (true, "3261ca167561defd72c63f91808e92b7960b1e295dc2b495d7e9561e79094b2c"), looks := true }, kinds := [], alts := [], laidByText := true, laidKinds := [.data, .data, .data, .sentinel, .sentinel], laidTests := true, laidLooks := .later }
def CodeTextsUptoCardSaid : Prop := Claim7.holds Tryz.pinned (.plain (OpenSpec.upto codeTextsSpec)) codeTextsUptoCard

/-- THE SECOND FORM's CARD OF 'gazetteerlaw42.HearNever'. -/
def hearNeverUptoCard : Claim7 := { stood := { row := hearNeverUptoRow, standIns := [], harness := (true, "3261ca167561defd72c63f91808e92b7960b1e295dc2b495d7e9561e79094b2c"), looks := true }, kinds := [], alts := [], laidByText := true, laidKinds := [.data, .data, .data, .sentinel, .sentinel], laidTests := true, laidLooks := .later }
def HearNeverUptoCardSaid : Prop := Claim7.holds Tryz.pinned (.plain (OpenSpec.upto hearNeverSpec)) hearNeverUptoCard

/-- THE SECOND FORM's CARD OF 'gazetteerlaw42.HearNear'. -/
def hearNearUptoCard : Claim7 := { stood := { row := hearNearUptoRow, standIns := [], harness := (true, "3261ca167561defd72c63f91808e92b7960b1e295dc2b495d7e9561e79094b2c"), looks := true }, kinds := [], alts := [], laidByText := true, laidKinds := [.data, .data, .data, .sentinel, .sentinel], laidTests := true, laidLooks := .later }
def HearNearUptoCardSaid : Prop := Claim7.holds Tryz.pinned (.plain (OpenSpec.upto hearNearSpec)) hearNearUptoCard
end Rows
end Go.Proofs.YtfecgebhoondjaaGreatDoor
