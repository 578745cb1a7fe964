/-
  DERIVED. GIVEN WITH THE SEED: THE CARDS: each row of YtafbgfdidmepaaaDoorRows.lean that lists a variable, with what it lists TIED to the program's text (the seventh form; the later family's looks); each row that meets fmt, with fmt's text TOLD by the authors' own Lean function (tested against real Go, not proved from fmt's source: count such statements apart). THE CARD IS WHAT COUNTS. Prove the row's statement (the work); the ties are given (YtafbgfdidmepaaaDoorTie.lean); close each card by the builder's one call (the guide's Derived/Test/ToyasCard.lean, 'card_holds'). Laid BY PROGRAM, IN A SANDBOX (cutbox-door.mjs). By AI agents, Wed Nov 11 2026. No macro, syntax, notation, axiom, sorry.
-/
import Derived.Test.YtafbgfdidmepaaaDoorRows
import GoSem.ClaimSeven
namespace Go.Proofs.YtafbgfdidmepaaaDoor
namespace Rows

/-- THE TIED CARD OF 'gazetteerlaw10.AlphabetMatchesReference'. -/
def alphabetMatchesReferenceCard : Claim7 := { stood := { row := alphabetMatchesReferenceRow, standIns := [], harness := (true, "1e9d2972e9e3c7aca7a313653968a15f1a8167805643391a552b91a6d54b398c"), looks := true }, kinds := [], alts := [], laidByText := true, laidKinds := [.data, .data, .data, .sentinel, .sentinel], laidTests := true, laidLooks := .later }
def AlphabetMatchesReferenceCardSaid : Prop := Claim7.holds Tryd.pinned (.plain (OpenSpec.ofChange alphabetMatchesReferenceSpec)) alphabetMatchesReferenceCard

/-- THE TIED CARD OF 'gazetteerlaw10.AlphabetReads'. -/
def alphabetReadsCard : Claim7 := { stood := { row := alphabetReadsRow, standIns := [], harness := (true, "1e9d2972e9e3c7aca7a313653968a15f1a8167805643391a552b91a6d54b398c"), looks := true }, kinds := [], alts := [], laidByText := true, laidKinds := [.data, .data, .data, .sentinel, .sentinel], laidTests := true, laidLooks := .later }
def AlphabetReadsCardSaid : Prop := Claim7.holds Tryd.pinned (.plain (OpenSpec.ofChange alphabetReadsSpec)) alphabetReadsCard

/-- THE TIED CARD OF 'gazetteerlaw10.AlphabetJoins'. -/
def alphabetJoinsCard : Claim7 := { stood := { row := alphabetJoinsRow, standIns := [], harness := (true, "1e9d2972e9e3c7aca7a313653968a15f1a8167805643391a552b91a6d54b398c"), looks := true }, kinds := [], alts := [], laidByText := true, laidKinds := [.data, .data, .data, .sentinel, .sentinel], laidTests := true, laidLooks := .later }
def AlphabetJoinsCardSaid : Prop := Claim7.holds Tryd.pinned (.plain (OpenSpec.ofChange alphabetJoinsSpec)) alphabetJoinsCard

/-- THE TIED CARD OF 'gazetteerlaw10.AlphabetFolds'. -/
def alphabetFoldsCard : Claim7 := { stood := { row := alphabetFoldsRow, standIns := [], harness := (true, "1e9d2972e9e3c7aca7a313653968a15f1a8167805643391a552b91a6d54b398c"), looks := true }, kinds := [], alts := [], laidByText := true, laidKinds := [.data, .data, .data, .sentinel, .sentinel], laidTests := true, laidLooks := .later }
def AlphabetFoldsCardSaid : Prop := Claim7.holds Tryd.pinned (.plain (OpenSpec.ofChange alphabetFoldsSpec)) alphabetFoldsCard

/-- THE TIED CARD OF 'gazetteerlaw10.AlphabetErrors'. -/
def alphabetErrorsCard : Claim7 := { stood := { row := alphabetErrorsRow, standIns := [], harness := (true, "1e9d2972e9e3c7aca7a313653968a15f1a8167805643391a552b91a6d54b398c"), looks := true }, kinds := [], alts := [], laidByText := true, laidKinds := [.data, .data, .data, .sentinel, .sentinel], laidTests := true, laidLooks := .later }
def AlphabetErrorsCardSaid : Prop := Claim7.holds Tryd.pinned (.plain (OpenSpec.ofChange alphabetErrorsSpec)) alphabetErrorsCard

/-- THE TIED CARD OF 'gazetteerlaw10.AlphabetParts'. -/
def alphabetPartsCard : Claim7 := { stood := { row := alphabetPartsRow, standIns := [], harness := (true, "1e9d2972e9e3c7aca7a313653968a15f1a8167805643391a552b91a6d54b398c"), looks := true }, kinds := [], alts := [], laidByText := true, laidKinds := [.data, .data, .data, .sentinel, .sentinel], laidTests := true, laidLooks := .later }
def AlphabetPartsCardSaid : Prop := Claim7.holds Tryd.pinned (.plain (OpenSpec.ofChange alphabetPartsSpec)) alphabetPartsCard

/-- THE TIED CARD OF 'gazetteerlaw10.AlphabetFewer'. -/
def alphabetFewerCard : Claim7 := { stood := { row := alphabetFewerRow, standIns := [], harness := (true, "1e9d2972e9e3c7aca7a313653968a15f1a8167805643391a552b91a6d54b398c"), looks := true }, kinds := [], alts := [], laidByText := true, laidKinds := [.data, .data, .data, .sentinel, .sentinel], laidTests := true, laidLooks := .later }
def AlphabetFewerCardSaid : Prop := Claim7.holds Tryd.pinned (.plain (OpenSpec.ofChange alphabetFewerSpec)) alphabetFewerCard

/-- THE TIED CARD OF 'gazetteerlaw10.AlphabetBytes'. -/
def alphabetBytesCard : Claim7 := { stood := { row := alphabetBytesRow, standIns := [], harness := (true, "1e9d2972e9e3c7aca7a313653968a15f1a8167805643391a552b91a6d54b398c"), looks := true }, kinds := [], alts := [], laidByText := true, laidKinds := [.data, .data, .data, .sentinel, .sentinel], laidTests := true, laidLooks := .later }
def AlphabetBytesCardSaid : Prop := Claim7.holds Tryd.pinned (.plain (OpenSpec.ofChange alphabetBytesSpec)) alphabetBytesCard

/-- THE SECOND FORM's CARD OF 'gazetteerlaw10.AlphabetMatchesReference'. -/
def alphabetMatchesReferenceUptoCard : Claim7 := { stood := { row := alphabetMatchesReferenceUptoRow, standIns := [], harness := (true, "1e9d2972e9e3c7aca7a313653968a15f1a8167805643391a552b91a6d54b398c"), looks := true }, kinds := [], alts := [], laidByText := true, laidKinds := [.data, .data, .data, .sentinel, .sentinel], laidTests := true, laidLooks := .later }
def AlphabetMatchesReferenceUptoCardSaid : Prop := Claim7.holds Tryd.pinned (.plain (OpenSpec.upto alphabetMatchesReferenceSpec)) alphabetMatchesReferenceUptoCard

/-- THE SECOND FORM's CARD OF 'gazetteerlaw10.AlphabetReads'. -/
def alphabetReadsUptoCard : Claim7 := { stood := { row := alphabetReadsUptoRow, standIns := [], harness := (true, "1e9d2972e9e3c7aca7a313653968a15f1a8167805643391a552b91a6d54b398c"), looks := true }, kinds := [], alts := [], laidByText := true, laidKinds := [.data, .data, .data, .sentinel, .sentinel], laidTests := true, laidLooks := .later }
def AlphabetReadsUptoCardSaid : Prop := Claim7.holds Tryd.pinned (.plain (OpenSpec.upto alphabetReadsSpec)) alphabetReadsUptoCard

/-- THE SECOND FORM's CARD OF 'gazetteerlaw10.AlphabetJoins'. -/
def alphabetJoinsUptoCard : Claim7 := { stood := { row := alphabetJoinsUptoRow, standIns := [], harness := (true, "1e9d2972e9e3c7aca7a313653968a15f1a8167805643391a552b91a6d54b398c"), looks := true }, kinds := [], alts := [], laidByText := true, laidKinds := [.data, .data, .data, .sentinel, .sentinel], laidTests := true, laidLooks := .later }
def AlphabetJoinsUptoCardSaid : Prop := Claim7.holds Tryd.pinned (.plain (OpenSpec.upto alphabetJoinsSpec)) alphabetJoinsUptoCard

/-- THE SECOND FORM's CARD OF 'gazetteerlaw10.AlphabetFolds'. -/
def alphabetFoldsUptoCard : Claim7 := { stood := { row := alphabetFoldsUptoRow, standIns := [], harness := (true, "1e9d2972e9e3c7aca7a313653968a15f1a8167805643391a552b91a6d54b398c"), looks := true }, kinds := [], alts := [], laidByText := true, laidKinds := [.data, .data, .data, .sentinel, .sentinel], laidTests := true, laidLooks := .later }
def AlphabetFoldsUptoCardSaid : Prop := Claim7.holds Tryd.pinned (.plain (OpenSpec.upto alphabetFoldsSpec)) alphabetFoldsUptoCard

/-- THE SECOND FORM's CARD OF 'gazetteerlaw10.AlphabetErrors'. -/
def alphabetErrorsUptoCard : Claim7 := { stood := { row := alphabetErrorsUptoRow, standIns := [], harness := (true, "1e9d2972e9e3c7aca7a313653968a15f1a8167805643391a552b91a6d54b398c"), looks := true }, kinds := [], alts := [], laidByText := true, laidKinds := [.data, .data, .data, .sentinel, .sentinel], laidTests := true, laidLooks := .later }
def AlphabetErrorsUptoCardSaid : Prop := Claim7.holds Tryd.pinned (.plain (OpenSpec.upto alphabetErrorsSpec)) alphabetErrorsUptoCard

/-- THE SECOND FORM's CARD OF 'gazetteerlaw10.AlphabetParts'. -/
def alphabetPartsUptoCard : Claim7 := { stood := { row := alphabetPartsUptoRow, standIns := [], harness := (true, "1e9d2972e9e3c7aca7a313653968a15f1a8167805643391a552b91a6d54b398c"), looks := true }, kinds := [], alts := [], laidByText := true, laidKinds := [.data, .data, .data, .sentinel, .sentinel], laidTests := true, laidLooks := .later }
def AlphabetPartsUptoCardSaid : Prop := Claim7.holds Tryd.pinned (.plain (OpenSpec.upto alphabetPartsSpec)) alphabetPartsUptoCard

/-- THE SECOND FORM's CARD OF 'gazetteerlaw10.AlphabetFewer'. -/
def alphabetFewerUptoCard : Claim7 := { stood := { row := alphabetFewerUptoRow, standIns := [], harness := (true, "1e9d2972e9e3c7aca7a313653968a15f1a8167805643391a552b91a6d54b398c"), looks := true }, kinds := [], alts := [], laidByText := true, laidKinds := [.data, .data, .data, .sentinel, .sentinel], laidTests := true, laidLooks := .later }
def AlphabetFewerUptoCardSaid : Prop := Claim7.holds Tryd.pinned (.plain (OpenSpec.upto alphabetFewerSpec)) alphabetFewerUptoCard

/-- THE SECOND FORM's CARD OF 'gazetteerlaw10.AlphabetBytes'. -/
def alphabetBytesUptoCard : Claim7 := { stood := { row := alphabetBytesUptoRow, standIns := [], harness := (true, "1e9d2972e9e3c7aca7a313653968a15f1a8167805643391a552b91a6d54b398c"), looks := true }, kinds := [], alts := [], laidByText := true, laidKinds := [.data, .data, .data, .sentinel, .sentinel], laidTests := true, laidLooks := .later }
def AlphabetBytesUptoCardSaid : Prop := Claim7.holds Tryd.pinned (.plain (OpenSpec.upto alphabetBytesSpec)) alphabetBytesUptoCard
end Rows
end Go.Proofs.YtafbgfdidmepaaaDoor
