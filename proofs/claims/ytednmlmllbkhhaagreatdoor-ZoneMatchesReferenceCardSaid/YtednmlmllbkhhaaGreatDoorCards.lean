/-
  DERIVED. GIVEN WITH THE SEED: THE CARDS: each row of YtednmlmllbkhhaaGreatDoorRows.lean that lists a variable, with what it lists TIED to the program's text (the seventh form; the later family's looks); each row that meets fmt, with fmt's text TOLD by the authors' own Lean function (tested against real Go, not proved from fmt's source: count such statements apart). THE CARD IS WHAT COUNTS. Prove the row's statement (the work); the ties are given (YtednmlmllbkhhaaGreatDoorTie.lean); close each card by the builder's one call (the guide's Derived/Test/ToyasCard.lean, 'card_holds'). Laid BY PROGRAM, IN A SANDBOX (cutbox-door.mjs). By AI agents, Wed Nov 11 2026. No macro, syntax, notation, axiom, sorry.
-/
import Derived.Test.YtednmlmllbkhhaaGreatDoorRows
import GoSem.ClaimSeven
namespace Go.Proofs.YtednmlmllbkhhaaGreatDoor
namespace Rows

/-- THE TIED CARD OF 'gazetteerlaw25.ZoneMatchesReference'. -/
def zoneMatchesReferenceCard : Claim7 := { stood := { row := zoneMatchesReferenceRow, standIns := [], harness := (true, "8f1d844ce260840b40caaaee08706cdd89eed436d638675625e014e740f77b78"), looks := true }, kinds := [], alts := [], laidByText := true, laidKinds := [.data, .data, .data, .sentinel, .sentinel], laidTests := true, laidLooks := .later }
def ZoneMatchesReferenceCardSaid : Prop := Claim7.holds Tryz.pinned (.plain (OpenSpec.ofChange zoneMatchesReferenceSpec)) zoneMatchesReferenceCard

/-- THE SECOND FORM's CARD OF 'gazetteerlaw25.ZoneMatchesReference'. -/
def zoneMatchesReferenceUptoCard : Claim7 := { stood := { row := zoneMatchesReferenceUptoRow, standIns := [], harness := (true, "8f1d844ce260840b40caaaee08706cdd89eed436d638675625e014e740f77b78"), looks := true }, kinds := [], alts := [], laidByText := true, laidKinds := [.data, .data, .data, .sentinel, .sentinel], laidTests := true, laidLooks := .later }
def ZoneMatchesReferenceUptoCardSaid : Prop := Claim7.holds Tryz.pinned (.plain (OpenSpec.upto zoneMatchesReferenceSpec)) zoneMatchesReferenceUptoCard
end Rows
end Go.Proofs.YtednmlmllbkhhaaGreatDoor
