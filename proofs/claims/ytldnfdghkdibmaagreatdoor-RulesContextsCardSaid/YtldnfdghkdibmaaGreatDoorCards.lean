/-
  DERIVED. GIVEN WITH THE SEED: THE CARDS: each row of YtldnfdghkdibmaaGreatDoorRows.lean that lists a variable, with what it lists TIED to the program's text (the seventh form; the later family's looks); each row that meets fmt, with fmt's text TOLD by the authors' own Lean function (tested against real Go, not proved from fmt's source: count such statements apart). THE CARD IS WHAT COUNTS. Prove the row's statement (the work); the ties are given (YtldnfdghkdibmaaGreatDoorTie.lean); close each card by the builder's one call (the guide's Derived/Test/ToyasCard.lean, 'card_holds'). Laid BY PROGRAM, IN A SANDBOX (cutbox-door.mjs). By AI agents, Wed Nov 11 2026. No macro, syntax, notation, axiom, sorry.
-/
import Derived.Test.YtldnfdghkdibmaaGreatDoorRows
import GoSem.ClaimSeven
namespace Go.Proofs.YtldnfdghkdibmaaGreatDoor
namespace Rows

/-- THE TIED CARD OF 'gazetteerlaw11.RulesPlain'. -/
def rulesPlainCard : Claim7 := { stood := { row := rulesPlainRow, standIns := [], harness := (true, "7feb01e386176de39274da7ed3e0794aabc6b09d61604767f8f70cf75f1c79b5"), looks := true }, kinds := [], alts := [], laidByText := true, laidKinds := [.data, .data, .data, .sentinel, .sentinel], laidTests := true, laidLooks := .later }
def RulesPlainCardSaid : Prop := Claim7.holds Tryz.pinned (.plain (OpenSpec.ofChange rulesPlainSpec)) rulesPlainCard

/-- THE TIED CARD OF 'gazetteerlaw11.RulesMore'. -/
def rulesMoreCard : Claim7 := { stood := { row := rulesMoreRow, standIns := [], harness := (true, "7feb01e386176de39274da7ed3e0794aabc6b09d61604767f8f70cf75f1c79b5"), looks := true }, kinds := [], alts := [], laidByText := true, laidKinds := [.data, .data, .data, .sentinel, .sentinel], laidTests := true, laidLooks := .later }
def RulesMoreCardSaid : Prop := Claim7.holds Tryz.pinned (.plain (OpenSpec.ofChange rulesMoreSpec)) rulesMoreCard

/-- THE TIED CARD OF 'gazetteerlaw11.RulesGaps'. -/
def rulesGapsCard : Claim7 := { stood := { row := rulesGapsRow, standIns := [], harness := (true, "7feb01e386176de39274da7ed3e0794aabc6b09d61604767f8f70cf75f1c79b5"), looks := true }, kinds := [], alts := [], laidByText := true, laidKinds := [.data, .data, .data, .sentinel, .sentinel], laidTests := true, laidLooks := .later }
def RulesGapsCardSaid : Prop := Claim7.holds Tryz.pinned (.plain (OpenSpec.ofChange rulesGapsSpec)) rulesGapsCard

/-- THE TIED CARD OF 'gazetteerlaw11.RulesFirst'. -/
def rulesFirstCard : Claim7 := { stood := { row := rulesFirstRow, standIns := [], harness := (true, "7feb01e386176de39274da7ed3e0794aabc6b09d61604767f8f70cf75f1c79b5"), looks := true }, kinds := [], alts := [], laidByText := true, laidKinds := [.data, .data, .data, .sentinel, .sentinel], laidTests := true, laidLooks := .later }
def RulesFirstCardSaid : Prop := Claim7.holds Tryz.pinned (.plain (OpenSpec.ofChange rulesFirstSpec)) rulesFirstCard

/-- THE TIED CARD OF 'gazetteerlaw11.RulesContexts'. -/
def rulesContextsCard : Claim7 := { stood := { row := rulesContextsRow, standIns := [], harness := (true, "7feb01e386176de39274da7ed3e0794aabc6b09d61604767f8f70cf75f1c79b5"), looks := true }, kinds := [], alts := [], laidByText := true, laidKinds := [.data, .data, .data, .sentinel, .sentinel], laidTests := true, laidLooks := .later }
def RulesContextsCardSaid : Prop := Claim7.holds Tryz.pinned (.plain (OpenSpec.ofChange rulesContextsSpec)) rulesContextsCard

/-- THE TIED CARD OF 'gazetteerlaw11.RulesMatchesReference'. -/
def rulesMatchesReferenceCard : Claim7 := { stood := { row := rulesMatchesReferenceRow, standIns := [], harness := (true, "7feb01e386176de39274da7ed3e0794aabc6b09d61604767f8f70cf75f1c79b5"), looks := true }, kinds := [], alts := [], laidByText := true, laidKinds := [.data, .data, .data, .sentinel, .sentinel], laidTests := true, laidLooks := .later }
def RulesMatchesReferenceCardSaid : Prop := Claim7.holds Tryz.pinned (.plain (OpenSpec.ofChange rulesMatchesReferenceSpec)) rulesMatchesReferenceCard

/-- THE TIED CARD OF 'gazetteerlaw11.RulesTexts'. -/
def rulesTextsCard : Claim7 := { stood := { row := rulesTextsRow, standIns := [], harness := (true, "7feb01e386176de39274da7ed3e0794aabc6b09d61604767f8f70cf75f1c79b5"), looks := true }, kinds := [], alts := [], laidByText := true, laidKinds := [.data, .data, .data, .sentinel, .sentinel], laidTests := true, laidLooks := .later }
def RulesTextsCardSaid : Prop := Claim7.holds Tryz.pinned (.plain (OpenSpec.ofChange rulesTextsSpec)) rulesTextsCard

/-- THE SECOND FORM's CARD OF 'gazetteerlaw11.RulesPlain'. -/
def rulesPlainUptoCard : Claim7 := { stood := { row := rulesPlainUptoRow, standIns := [], harness := (true, "7feb01e386176de39274da7ed3e0794aabc6b09d61604767f8f70cf75f1c79b5"), looks := true }, kinds := [], alts := [], laidByText := true, laidKinds := [.data, .data, .data, .sentinel, .sentinel], laidTests := true, laidLooks := .later }
def RulesPlainUptoCardSaid : Prop := Claim7.holds Tryz.pinned (.plain (OpenSpec.upto rulesPlainSpec)) rulesPlainUptoCard

/-- THE SECOND FORM's CARD OF 'gazetteerlaw11.RulesMore'. -/
def rulesMoreUptoCard : Claim7 := { stood := { row := rulesMoreUptoRow, standIns := [], harness := (true, "7feb01e386176de39274da7ed3e0794aabc6b09d61604767f8f70cf75f1c79b5"), looks := true }, kinds := [], alts := [], laidByText := true, laidKinds := [.data, .data, .data, .sentinel, .sentinel], laidTests := true, laidLooks := .later }
def RulesMoreUptoCardSaid : Prop := Claim7.holds Tryz.pinned (.plain (OpenSpec.upto rulesMoreSpec)) rulesMoreUptoCard

/-- THE SECOND FORM's CARD OF 'gazetteerlaw11.RulesGaps'. -/
def rulesGapsUptoCard : Claim7 := { stood := { row := rulesGapsUptoRow, standIns := [], harness := (true, "7feb01e386176de39274da7ed3e0794aabc6b09d61604767f8f70cf75f1c79b5"), looks := true }, kinds := [], alts := [], laidByText := true, laidKinds := [.data, .data, .data, .sentinel, .sentinel], laidTests := true, laidLooks := .later }
def RulesGapsUptoCardSaid : Prop := Claim7.holds Tryz.pinned (.plain (OpenSpec.upto rulesGapsSpec)) rulesGapsUptoCard

/-- THE SECOND FORM's CARD OF 'gazetteerlaw11.RulesFirst'. -/
def rulesFirstUptoCard : Claim7 := { stood := { row := rulesFirstUptoRow, standIns := [], harness := (true, "7feb01e386176de39274da7ed3e0794aabc6b09d61604767f8f70cf75f1c79b5"), looks := true }, kinds := [], alts := [], laidByText := true, laidKinds := [.data, .data, .data, .sentinel, .sentinel], laidTests := true, laidLooks := .later }
def RulesFirstUptoCardSaid : Prop := Claim7.holds Tryz.pinned (.plain (OpenSpec.upto rulesFirstSpec)) rulesFirstUptoCard

/-- THE SECOND FORM's CARD OF 'gazetteerlaw11.RulesContexts'. -/
def rulesContextsUptoCard : Claim7 := { stood := { row := rulesContextsUptoRow, standIns := [], harness := (true, "7feb01e386176de39274da7ed3e0794aabc6b09d61604767f8f70cf75f1c79b5"), looks := true }, kinds := [], alts := [], laidByText := true, laidKinds := [.data, .data, .data, .sentinel, .sentinel], laidTests := true, laidLooks := .later }
def RulesContextsUptoCardSaid : Prop := Claim7.holds Tryz.pinned (.plain (OpenSpec.upto rulesContextsSpec)) rulesContextsUptoCard

/-- THE SECOND FORM's CARD OF 'gazetteerlaw11.RulesMatchesReference'. -/
def rulesMatchesReferenceUptoCard : Claim7 := { stood := { row := rulesMatchesReferenceUptoRow, standIns := [], harness := (true, "7feb01e386176de39274da7ed3e0794aabc6b09d61604767f8f70cf75f1c79b5"), looks := true }, kinds := [], alts := [], laidByText := true, laidKinds := [.data, .data, .data, .sentinel, .sentinel], laidTests := true, laidLooks := .later }
def RulesMatchesReferenceUptoCardSaid : Prop := Claim7.holds Tryz.pinned (.plain (OpenSpec.upto rulesMatchesReferenceSpec)) rulesMatchesReferenceUptoCard

/-- THE SECOND FORM's CARD OF 'gazetteerlaw11.RulesTexts'. -/
def rulesTextsUptoCard : Claim7 := { stood := { row := rulesTextsUptoRow, standIns := [], harness := (true, "7feb01e386176de39274da7ed3e0794aabc6b09d61604767f8f70cf75f1c79b5"), looks := true }, kinds := [], alts := [], laidByText := true, laidKinds := [.data, .data, .data, .sentinel, .sentinel], laidTests := true, laidLooks := .later }
def RulesTextsUptoCardSaid : Prop := Claim7.holds Tryz.pinned (.plain (OpenSpec.upto rulesTextsSpec)) rulesTextsUptoCard
end Rows
end Go.Proofs.YtldnfdghkdibmaaGreatDoor
