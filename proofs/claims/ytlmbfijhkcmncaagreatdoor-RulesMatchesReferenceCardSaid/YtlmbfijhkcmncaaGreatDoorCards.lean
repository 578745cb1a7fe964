/-
  DERIVED. GIVEN WITH THE SEED: THE CARDS: each row of YtlmbfijhkcmncaaGreatDoorRows.lean that lists a variable, with what it lists TIED to the program's text (the seventh form; the later family's looks); each row that meets fmt, with fmt's text TOLD by the authors' own Lean function (tested against real Go, not proved from fmt's source: count such statements apart). THE CARD IS WHAT COUNTS. Prove the row's statement (the work); the ties are given (YtlmbfijhkcmncaaGreatDoorTie.lean); close each card by the builder's one call (the guide's Derived/Test/ToyasCard.lean, 'card_holds'). Laid BY PROGRAM, IN A SANDBOX (cutbox-door.mjs). By AI agents, Wed Nov 11 2026. No macro, syntax, notation, axiom, sorry.
-/
import Derived.Test.YtlmbfijhkcmncaaGreatDoorRows
import GoSem.ClaimSeven
namespace Go.Proofs.YtlmbfijhkcmncaaGreatDoor
namespace Rows

/-- THE TIED CARD OF 'gazetteerlaw11.RulesMatchesReference'. -/
def rulesMatchesReferenceCard : Claim7 := { stood := { row := rulesMatchesReferenceRow, standIns := [], harness := (true, "d7942498f51e29a39fa458e1b4784daf1091bfb3303387f1f2dc862f1fcc1ec6"), looks := true }, kinds := [], alts := [], laidByText := true, laidKinds := [.data, .data, .data, .sentinel, .sentinel], laidTests := true, laidLooks := .later }
def RulesMatchesReferenceCardSaid : Prop := Claim7.holds Tryz.pinned (.plain (OpenSpec.ofChange rulesMatchesReferenceSpec)) rulesMatchesReferenceCard

/-- THE SECOND FORM's CARD OF 'gazetteerlaw11.RulesMatchesReference'. -/
def rulesMatchesReferenceUptoCard : Claim7 := { stood := { row := rulesMatchesReferenceUptoRow, standIns := [], harness := (true, "d7942498f51e29a39fa458e1b4784daf1091bfb3303387f1f2dc862f1fcc1ec6"), looks := true }, kinds := [], alts := [], laidByText := true, laidKinds := [.data, .data, .data, .sentinel, .sentinel], laidTests := true, laidLooks := .later }
def RulesMatchesReferenceUptoCardSaid : Prop := Claim7.holds Tryz.pinned (.plain (OpenSpec.upto rulesMatchesReferenceSpec)) rulesMatchesReferenceUptoCard
end Rows
end Go.Proofs.YtlmbfijhkcmncaaGreatDoor
