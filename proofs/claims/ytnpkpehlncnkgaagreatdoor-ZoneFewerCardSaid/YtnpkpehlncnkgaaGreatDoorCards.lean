/-
  DERIVED. GIVEN WITH THE SEED: THE CARDS: each row of YtnpkpehlncnkgaaGreatDoorRows.lean that lists a variable, with what it lists TIED to the program's text (the seventh form; the later family's looks); each row that meets fmt, with fmt's text TOLD by the authors' own Lean function (tested against real Go, not proved from fmt's source: count such statements apart). THE CARD IS WHAT COUNTS. Prove the row's statement (the work); the ties are given (YtnpkpehlncnkgaaGreatDoorTie.lean); close each card by the builder's one call (the guide's Derived/Test/ToyasCard.lean, 'card_holds'). Laid BY PROGRAM, IN A SANDBOX (cutbox-door.mjs). By AI agents, Wed Nov 11 2026. No macro, syntax, notation, axiom, sorry.
-/
import Derived.Test.YtnpkpehlncnkgaaGreatDoorRows
import GoSem.ClaimSeven
namespace Go.Proofs.YtnpkpehlncnkgaaGreatDoor
namespace Rows

/-- THE TIED CARD OF 'gazetteerlaw25.ZoneMatchesReference'. -/
def zoneMatchesReferenceCard : Claim7 := { stood := { row := zoneMatchesReferenceRow, standIns := [], harness := (true, "337eea63359edf7ecf57f1d76edb8d6bb65b0c99c444c5d5cdbc8a23ec5b1b9f"), looks := true }, kinds := [], alts := [], laidByText := true, laidKinds := [.data, .data, .data, .sentinel, .sentinel], laidTests := true, laidLooks := .later }
def ZoneMatchesReferenceCardSaid : Prop := Claim7.holds Tryz.pinned (.plain (OpenSpec.ofChange zoneMatchesReferenceSpec)) zoneMatchesReferenceCard

/-- THE TIED CARD OF 'gazetteerlaw25.ZoneAll'. -/
def zoneAllCard : Claim7 := { stood := { row := zoneAllRow, standIns := [], harness := (true, "337eea63359edf7ecf57f1d76edb8d6bb65b0c99c444c5d5cdbc8a23ec5b1b9f"), looks := true }, kinds := [], alts := [], laidByText := true, laidKinds := [.data, .data, .data, .sentinel, .sentinel], laidTests := true, laidLooks := .later }
def ZoneAllCardSaid : Prop := Claim7.holds Tryz.pinned (.plain (OpenSpec.ofChange zoneAllSpec)) zoneAllCard

/-- THE TIED CARD OF 'gazetteerlaw25.ZoneOne'. -/
def zoneOneCard : Claim7 := { stood := { row := zoneOneRow, standIns := [], harness := (true, "337eea63359edf7ecf57f1d76edb8d6bb65b0c99c444c5d5cdbc8a23ec5b1b9f"), looks := true }, kinds := [], alts := [], laidByText := true, laidKinds := [.data, .data, .data, .sentinel, .sentinel], laidTests := true, laidLooks := .later }
def ZoneOneCardSaid : Prop := Claim7.holds Tryz.pinned (.plain (OpenSpec.ofChange zoneOneSpec)) zoneOneCard

/-- THE TIED CARD OF 'gazetteerlaw25.ZoneApart'. -/
def zoneApartCard : Claim7 := { stood := { row := zoneApartRow, standIns := [], harness := (true, "337eea63359edf7ecf57f1d76edb8d6bb65b0c99c444c5d5cdbc8a23ec5b1b9f"), looks := true }, kinds := [], alts := [], laidByText := true, laidKinds := [.data, .data, .data, .sentinel, .sentinel], laidTests := true, laidLooks := .later }
def ZoneApartCardSaid : Prop := Claim7.holds Tryz.pinned (.plain (OpenSpec.ofChange zoneApartSpec)) zoneApartCard

/-- THE TIED CARD OF 'gazetteerlaw25.ZoneNested'. -/
def zoneNestedCard : Claim7 := { stood := { row := zoneNestedRow, standIns := [], harness := (true, "337eea63359edf7ecf57f1d76edb8d6bb65b0c99c444c5d5cdbc8a23ec5b1b9f"), looks := true }, kinds := [], alts := [], laidByText := true, laidKinds := [.data, .data, .data, .sentinel, .sentinel], laidTests := true, laidLooks := .later }
def ZoneNestedCardSaid : Prop := Claim7.holds Tryz.pinned (.plain (OpenSpec.ofChange zoneNestedSpec)) zoneNestedCard

/-- THE TIED CARD OF 'gazetteerlaw25.ZoneOrder'. -/
def zoneOrderCard : Claim7 := { stood := { row := zoneOrderRow, standIns := [], harness := (true, "337eea63359edf7ecf57f1d76edb8d6bb65b0c99c444c5d5cdbc8a23ec5b1b9f"), looks := true }, kinds := [], alts := [], laidByText := true, laidKinds := [.data, .data, .data, .sentinel, .sentinel], laidTests := true, laidLooks := .later }
def ZoneOrderCardSaid : Prop := Claim7.holds Tryz.pinned (.plain (OpenSpec.ofChange zoneOrderSpec)) zoneOrderCard

/-- THE TIED CARD OF 'gazetteerlaw25.ZoneFewer'. -/
def zoneFewerCard : Claim7 := { stood := { row := zoneFewerRow, standIns := [], harness := (true, "337eea63359edf7ecf57f1d76edb8d6bb65b0c99c444c5d5cdbc8a23ec5b1b9f"), looks := true }, kinds := [], alts := [], laidByText := true, laidKinds := [.data, .data, .data, .sentinel, .sentinel], laidTests := true, laidLooks := .later }
def ZoneFewerCardSaid : Prop := Claim7.holds Tryz.pinned (.plain (OpenSpec.ofChange zoneFewerSpec)) zoneFewerCard

/-- THE SECOND FORM's CARD OF 'gazetteerlaw25.ZoneMatchesReference'. -/
def zoneMatchesReferenceUptoCard : Claim7 := { stood := { row := zoneMatchesReferenceUptoRow, standIns := [], harness := (true, "337eea63359edf7ecf57f1d76edb8d6bb65b0c99c444c5d5cdbc8a23ec5b1b9f"), looks := true }, kinds := [], alts := [], laidByText := true, laidKinds := [.data, .data, .data, .sentinel, .sentinel], laidTests := true, laidLooks := .later }
def ZoneMatchesReferenceUptoCardSaid : Prop := Claim7.holds Tryz.pinned (.plain (OpenSpec.upto zoneMatchesReferenceSpec)) zoneMatchesReferenceUptoCard

/-- THE SECOND FORM's CARD OF 'gazetteerlaw25.ZoneAll'. -/
def zoneAllUptoCard : Claim7 := { stood := { row := zoneAllUptoRow, standIns := [], harness := (true, "337eea63359edf7ecf57f1d76edb8d6bb65b0c99c444c5d5cdbc8a23ec5b1b9f"), looks := true }, kinds := [], alts := [], laidByText := true, laidKinds := [.data, .data, .data, .sentinel, .sentinel], laidTests := true, laidLooks := .later }
def ZoneAllUptoCardSaid : Prop := Claim7.holds Tryz.pinned (.plain (OpenSpec.upto zoneAllSpec)) zoneAllUptoCard

/-- THE SECOND FORM's CARD OF 'gazetteerlaw25.ZoneOne'. -/
def zoneOneUptoCard : Claim7 := { stood := { row := zoneOneUptoRow, standIns := [], harness := (true, "337eea63359edf7ecf57f1d76edb8d6bb65b0c99c444c5d5cdbc8a23ec5b1b9f"), looks := true }, kinds := [], alts := [], laidByText := true, laidKinds := [.data, .data, .data, .sentinel, .sentinel], laidTests := true, laidLooks := .later }
def ZoneOneUptoCardSaid : Prop := Claim7.holds Tryz.pinned (.plain (OpenSpec.upto zoneOneSpec)) zoneOneUptoCard

/-- THE SECOND FORM's CARD OF 'gazetteerlaw25.ZoneApart'. -/
def zoneApartUptoCard : Claim7 := { stood := { row := zoneApartUptoRow, standIns := [], harness := (true, "337eea63359edf7ecf57f1d76edb8d6bb65b0c99c444c5d5cdbc8a23ec5b1b9f"), looks := true }, kinds := [], alts := [], laidByText := true, laidKinds := [.data, .data, .data, .sentinel, .sentinel], laidTests := true, laidLooks := .later }
def ZoneApartUptoCardSaid : Prop := Claim7.holds Tryz.pinned (.plain (OpenSpec.upto zoneApartSpec)) zoneApartUptoCard

/-- THE SECOND FORM's CARD OF 'gazetteerlaw25.ZoneNested'. -/
def zoneNestedUptoCard : Claim7 := { stood := { row := zoneNestedUptoRow, standIns := [], harness := (true, "337eea63359edf7ecf57f1d76edb8d6bb65b0c99c444c5d5cdbc8a23ec5b1b9f"), looks := true }, kinds := [], alts := [], laidByText := true, laidKinds := [.data, .data, .data, .sentinel, .sentinel], laidTests := true, laidLooks := .later }
def ZoneNestedUptoCardSaid : Prop := Claim7.holds Tryz.pinned (.plain (OpenSpec.upto zoneNestedSpec)) zoneNestedUptoCard

/-- THE SECOND FORM's CARD OF 'gazetteerlaw25.ZoneOrder'. -/
def zoneOrderUptoCard : Claim7 := { stood := { row := zoneOrderUptoRow, standIns := [], harness := (true, "337eea63359edf7ecf57f1d76edb8d6bb65b0c99c444c5d5cdbc8a23ec5b1b9f"), looks := true }, kinds := [], alts := [], laidByText := true, laidKinds := [.data, .data, .data, .sentinel, .sentinel], laidTests := true, laidLooks := .later }
def ZoneOrderUptoCardSaid : Prop := Claim7.holds Tryz.pinned (.plain (OpenSpec.upto zoneOrderSpec)) zoneOrderUptoCard

/-- THE SECOND FORM's CARD OF 'gazetteerlaw25.ZoneFewer'. -/
def zoneFewerUptoCard : Claim7 := { stood := { row := zoneFewerUptoRow, standIns := [], harness := (true, "337eea63359edf7ecf57f1d76edb8d6bb65b0c99c444c5d5cdbc8a23ec5b1b9f"), looks := true }, kinds := [], alts := [], laidByText := true, laidKinds := [.data, .data, .data, .sentinel, .sentinel], laidTests := true, laidLooks := .later }
def ZoneFewerUptoCardSaid : Prop := Claim7.holds Tryz.pinned (.plain (OpenSpec.upto zoneFewerSpec)) zoneFewerUptoCard
end Rows
end Go.Proofs.YtnpkpehlncnkgaaGreatDoor
