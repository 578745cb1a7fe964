/-
  DERIVED. GIVEN WITH THE SEED: THE CARDS: each row of YtgjdbnkeamjhhaaGreatDoorRows.lean that lists a variable, with what it lists TIED to the program's text (the seventh form; the later family's looks); each row that meets fmt, with fmt's text TOLD by the authors' own Lean function (tested against real Go, not proved from fmt's source: count such statements apart). THE CARD IS WHAT COUNTS. Prove the row's statement (the work); the ties are given (YtgjdbnkeamjhhaaGreatDoorTie.lean); close each card by the builder's one call (the guide's Derived/Test/ToyasCard.lean, 'card_holds'). Laid BY PROGRAM, IN A SANDBOX (cutbox-door.mjs). By AI agents, Wed Nov 11 2026. No macro, syntax, notation, axiom, sorry.
-/
import Derived.Test.YtgjdbnkeamjhhaaGreatDoorRows
import GoSem.ClaimSeven
namespace Go.Proofs.YtgjdbnkeamjhhaaGreatDoor
namespace Rows

/-- THE TIED CARD OF 'gazetteerlaw40.SoundMatchesReference'. -/
def soundMatchesReferenceCard : Claim7 := { stood := { row := soundMatchesReferenceRow, standIns := [], harness := (true, "1fdc82fc7bc8afc601d82fe1f91e5bf6ab375d551a62c93872e915c1ccf44430"), looks := true }, kinds := [], alts := [], laidByText := true, laidKinds := [.data, .data, .data, .sentinel, .sentinel], laidTests := true, laidLooks := .later }
def SoundMatchesReferenceCardSaid : Prop := Claim7.holds Tryz.pinned (.plain (OpenSpec.ofChange soundMatchesReferenceSpec)) soundMatchesReferenceCard

/-- THE SECOND FORM's CARD OF 'gazetteerlaw40.SoundMatchesReference'. -/
def soundMatchesReferenceUptoCard : Claim7 := { stood := { row := soundMatchesReferenceUptoRow, standIns := [], harness := (true, "1fdc82fc7bc8afc601d82fe1f91e5bf6ab375d551a62c93872e915c1ccf44430"), looks := true }, kinds := [], alts := [], laidByText := true, laidKinds := [.data, .data, .data, .sentinel, .sentinel], laidTests := true, laidLooks := .later }
def SoundMatchesReferenceUptoCardSaid : Prop := Claim7.holds Tryz.pinned (.plain (OpenSpec.upto soundMatchesReferenceSpec)) soundMatchesReferenceUptoCard
end Rows
end Go.Proofs.YtgjdbnkeamjhhaaGreatDoor
