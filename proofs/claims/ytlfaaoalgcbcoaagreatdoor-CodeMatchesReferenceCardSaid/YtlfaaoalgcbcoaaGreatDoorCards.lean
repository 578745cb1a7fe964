/-
  DERIVED. GIVEN WITH THE SEED: THE CARDS: each row of YtlfaaoalgcbcoaaGreatDoorRows.lean that lists a variable, with what it lists TIED to the program's text (the seventh form; the later family's looks); each row that meets fmt, with fmt's text TOLD by the authors' own Lean function (tested against real Go, not proved from fmt's source: count such statements apart). THE CARD IS WHAT COUNTS. Prove the row's statement (the work); the ties are given (YtlfaaoalgcbcoaaGreatDoorTie.lean); close each card by the builder's one call (the guide's Derived/Test/ToyasCard.lean, 'card_holds'). Laid BY PROGRAM, IN A SANDBOX (cutbox-door.mjs). By AI agents, Wed Nov 11 2026. No macro, syntax, notation, axiom, sorry.
-/
import Derived.Test.YtlfaaoalgcbcoaaGreatDoorRows
import GoSem.ClaimSeven
namespace Go.Proofs.YtlfaaoalgcbcoaaGreatDoor
namespace Rows

/-- THE TIED CARD OF 'gazetteerlaw42.HearMatchesReference'. -/
def hearMatchesReferenceCard : Claim7 := { stood := { row := hearMatchesReferenceRow, standIns := [], harness := (true, "32c589d23a0b258fcc51a816cd86eab1f7d001d60f6110067f24c0eb0109618a"), looks := true }, kinds := [], alts := [], laidByText := true, laidKinds := [.data, .data, .data, .sentinel, .sentinel], laidTests := true, laidLooks := .later }
def HearMatchesReferenceCardSaid : Prop := Claim7.holds Tryz.pinned (.plain (OpenSpec.ofChange hearMatchesReferenceSpec)) hearMatchesReferenceCard

/-- THE TIED CARD OF 'gazetteerlaw41.CodeMatchesReference'. -/
def codeMatchesReferenceCard : Claim7 := { stood := { row := codeMatchesReferenceRow, standIns := [], harness := (true, "32c589d23a0b258fcc51a816cd86eab1f7d001d60f6110067f24c0eb0109618a"), looks := true }, kinds := [], alts := [], laidByText := true, laidKinds := [.data, .data, .data, .sentinel, .sentinel], laidTests := true, laidLooks := .later }
def CodeMatchesReferenceCardSaid : Prop := Claim7.holds Tryz.pinned (.plain (OpenSpec.ofChange codeMatchesReferenceSpec)) codeMatchesReferenceCard

/-- THE SECOND FORM's CARD OF 'gazetteerlaw42.HearMatchesReference'. -/
def hearMatchesReferenceUptoCard : Claim7 := { stood := { row := hearMatchesReferenceUptoRow, standIns := [], harness := (true, "32c589d23a0b258fcc51a816cd86eab1f7d001d60f6110067f24c0eb0109618a"), looks := true }, kinds := [], alts := [], laidByText := true, laidKinds := [.data, .data, .data, .sentinel, .sentinel], laidTests := true, laidLooks := .later }
def HearMatchesReferenceUptoCardSaid : Prop := Claim7.holds Tryz.pinned (.plain (OpenSpec.upto hearMatchesReferenceSpec)) hearMatchesReferenceUptoCard

/-- THE SECOND FORM's CARD OF 'gazetteerlaw41.CodeMatchesReference'. -/
def codeMatchesReferenceUptoCard : Claim7 := { stood := { row := codeMatchesReferenceUptoRow, standIns := [], harness := (true, "32c589d23a0b258fcc51a816cd86eab1f7d001d60f6110067f24c0eb0109618a"), looks := true }, kinds := [], alts := [], laidByText := true, laidKinds := [.data, .data, .data, .sentinel, .sentinel], laidTests := true, laidLooks := .later }
def CodeMatchesReferenceUptoCardSaid : Prop := Claim7.holds Tryz.pinned (.plain (OpenSpec.upto codeMatchesReferenceSpec)) codeMatchesReferenceUptoCard
end Rows
end Go.Proofs.YtlfaaoalgcbcoaaGreatDoor
