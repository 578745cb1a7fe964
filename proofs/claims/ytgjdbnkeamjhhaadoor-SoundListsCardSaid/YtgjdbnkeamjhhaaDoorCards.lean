/-
  DERIVED. GIVEN WITH THE SEED: THE CARDS: each row of YtgjdbnkeamjhhaaDoorRows.lean that lists a variable, with what it lists TIED to the program's text (the seventh form; the later family's looks); each row that meets fmt, with fmt's text TOLD by the authors' own Lean function (tested against real Go, not proved from fmt's source: count such statements apart). THE CARD IS WHAT COUNTS. Prove the row's statement (the work); the ties are given (YtgjdbnkeamjhhaaDoorTie.lean); close each card by the builder's one call (the guide's Derived/Test/ToyasCard.lean, 'card_holds'). Laid BY PROGRAM, IN A SANDBOX (cutbox-door.mjs). By AI agents, Wed Nov 11 2026. No macro, syntax, notation, axiom, sorry.
-/
import Derived.Test.YtgjdbnkeamjhhaaDoorRows
import GoSem.ClaimSeven
namespace Go.Proofs.YtgjdbnkeamjhhaaDoor
namespace Rows

/-- THE TIED CARD OF 'gazetteerlaw40.SoundBothWays'. -/
def soundBothWaysCard : Claim7 := { stood := { row := soundBothWaysRow, standIns := [], harness := (true, "9d2668689a8ce1f5db945a49ce71f1a0fca5c7538df635ca64cd3a941231a708"), looks := true }, kinds := [], alts := [], laidByText := true, laidKinds := [.data, .data, .data, .sentinel, .sentinel], laidTests := true, laidLooks := .later }
def SoundBothWaysCardSaid : Prop := Claim7.holds Tryd.pinned (.plain (OpenSpec.ofChange soundBothWaysSpec)) soundBothWaysCard

/-- THE TIED CARD OF 'gazetteerlaw40.SoundMade'. -/
def soundMadeCard : Claim7 := { stood := { row := soundMadeRow, standIns := [], harness := (true, "9d2668689a8ce1f5db945a49ce71f1a0fca5c7538df635ca64cd3a941231a708"), looks := true }, kinds := [], alts := [], laidByText := true, laidKinds := [.data, .data, .data, .sentinel, .sentinel], laidTests := true, laidLooks := .later }
def SoundMadeCardSaid : Prop := Claim7.holds Tryd.pinned (.plain (OpenSpec.ofChange soundMadeSpec)) soundMadeCard

/-- THE TIED CARD OF 'gazetteerlaw40.SoundFound'. -/
def soundFoundCard : Claim7 := { stood := { row := soundFoundRow, standIns := [], harness := (true, "9d2668689a8ce1f5db945a49ce71f1a0fca5c7538df635ca64cd3a941231a708"), looks := true }, kinds := [], alts := [], laidByText := true, laidKinds := [.data, .data, .data, .sentinel, .sentinel], laidTests := true, laidLooks := .later }
def SoundFoundCardSaid : Prop := Claim7.holds Tryd.pinned (.plain (OpenSpec.ofChange soundFoundSpec)) soundFoundCard

/-- THE TIED CARD OF 'gazetteerlaw40.SoundMore'. -/
def soundMoreCard : Claim7 := { stood := { row := soundMoreRow, standIns := [], harness := (true, "9d2668689a8ce1f5db945a49ce71f1a0fca5c7538df635ca64cd3a941231a708"), looks := true }, kinds := [], alts := [], laidByText := true, laidKinds := [.data, .data, .data, .sentinel, .sentinel], laidTests := true, laidLooks := .later }
def SoundMoreCardSaid : Prop := Claim7.holds Tryd.pinned (.plain (OpenSpec.ofChange soundMoreSpec)) soundMoreCard

/-- THE TIED CARD OF 'gazetteerlaw40.SoundNear'. -/
def soundNearCard : Claim7 := { stood := { row := soundNearRow, standIns := [], harness := (true, "9d2668689a8ce1f5db945a49ce71f1a0fca5c7538df635ca64cd3a941231a708"), looks := true }, kinds := [], alts := [], laidByText := true, laidKinds := [.data, .data, .data, .sentinel, .sentinel], laidTests := true, laidLooks := .later }
def SoundNearCardSaid : Prop := Claim7.holds Tryd.pinned (.plain (OpenSpec.ofChange soundNearSpec)) soundNearCard

/-- THE TIED CARD OF 'gazetteerlaw40.SoundOrder'. -/
def soundOrderCard : Claim7 := { stood := { row := soundOrderRow, standIns := [], harness := (true, "9d2668689a8ce1f5db945a49ce71f1a0fca5c7538df635ca64cd3a941231a708"), looks := true }, kinds := [], alts := [], laidByText := true, laidKinds := [.data, .data, .data, .sentinel, .sentinel], laidTests := true, laidLooks := .later }
def SoundOrderCardSaid : Prop := Claim7.holds Tryd.pinned (.plain (OpenSpec.ofChange soundOrderSpec)) soundOrderCard

/-- THE TIED CARD OF 'gazetteerlaw40.SoundLists'. -/
def soundListsCard : Claim7 := { stood := { row := soundListsRow, standIns := [], harness := (true, "9d2668689a8ce1f5db945a49ce71f1a0fca5c7538df635ca64cd3a941231a708"), looks := true }, kinds := [], alts := [], laidByText := true, laidKinds := [.data, .data, .data, .sentinel, .sentinel], laidTests := true, laidLooks := .later }
def SoundListsCardSaid : Prop := Claim7.holds Tryd.pinned (.plain (OpenSpec.ofChange soundListsSpec)) soundListsCard

/-- THE SECOND FORM's CARD OF 'gazetteerlaw40.SoundBothWays'. -/
def soundBothWaysUptoCard : Claim7 := { stood := { row := soundBothWaysUptoRow, standIns := [], harness := (true, "9d2668689a8ce1f5db945a49ce71f1a0fca5c7538df635ca64cd3a941231a708"), looks := true }, kinds := [], alts := [], laidByText := true, laidKinds := [.data, .data, .data, .sentinel, .sentinel], laidTests := true, laidLooks := .later }
def SoundBothWaysUptoCardSaid : Prop := Claim7.holds Tryd.pinned (.plain (OpenSpec.upto soundBothWaysSpec)) soundBothWaysUptoCard

/-- THE SECOND FORM's CARD OF 'gazetteerlaw40.SoundMade'. -/
def soundMadeUptoCard : Claim7 := { stood := { row := soundMadeUptoRow, standIns := [], harness := (true, "9d2668689a8ce1f5db945a49ce71f1a0fca5c7538df635ca64cd3a941231a708"), looks := true }, kinds := [], alts := [], laidByText := true, laidKinds := [.data, .data, .data, .sentinel, .sentinel], laidTests := true, laidLooks := .later }
def SoundMadeUptoCardSaid : Prop := Claim7.holds Tryd.pinned (.plain (OpenSpec.upto soundMadeSpec)) soundMadeUptoCard

/-- THE SECOND FORM's CARD OF 'gazetteerlaw40.SoundFound'. -/
def soundFoundUptoCard : Claim7 := { stood := { row := soundFoundUptoRow, standIns := [], harness := (true, "9d2668689a8ce1f5db945a49ce71f1a0fca5c7538df635ca64cd3a941231a708"), looks := true }, kinds := [], alts := [], laidByText := true, laidKinds := [.data, .data, .data, .sentinel, .sentinel], laidTests := true, laidLooks := .later }
def SoundFoundUptoCardSaid : Prop := Claim7.holds Tryd.pinned (.plain (OpenSpec.upto soundFoundSpec)) soundFoundUptoCard

/-- THE SECOND FORM's CARD OF 'gazetteerlaw40.SoundMore'. -/
def soundMoreUptoCard : Claim7 := { stood := { row := soundMoreUptoRow, standIns := [], harness := (true, "9d2668689a8ce1f5db945a49ce71f1a0fca5c7538df635ca64cd3a941231a708"), looks := true }, kinds := [], alts := [], laidByText := true, laidKinds := [.data, .data, .data, .sentinel, .sentinel], laidTests := true, laidLooks := .later }
def SoundMoreUptoCardSaid : Prop := Claim7.holds Tryd.pinned (.plain (OpenSpec.upto soundMoreSpec)) soundMoreUptoCard

/-- THE SECOND FORM's CARD OF 'gazetteerlaw40.SoundNear'. -/
def soundNearUptoCard : Claim7 := { stood := { row := soundNearUptoRow, standIns := [], harness := (true, "9d2668689a8ce1f5db945a49ce71f1a0fca5c7538df635ca64cd3a941231a708"), looks := true }, kinds := [], alts := [], laidByText := true, laidKinds := [.data, .data, .data, .sentinel, .sentinel], laidTests := true, laidLooks := .later }
def SoundNearUptoCardSaid : Prop := Claim7.holds Tryd.pinned (.plain (OpenSpec.upto soundNearSpec)) soundNearUptoCard

/-- THE SECOND FORM's CARD OF 'gazetteerlaw40.SoundOrder'. -/
def soundOrderUptoCard : Claim7 := { stood := { row := soundOrderUptoRow, standIns := [], harness := (true, "9d2668689a8ce1f5db945a49ce71f1a0fca5c7538df635ca64cd3a941231a708"), looks := true }, kinds := [], alts := [], laidByText := true, laidKinds := [.data, .data, .data, .sentinel, .sentinel], laidTests := true, laidLooks := .later }
def SoundOrderUptoCardSaid : Prop := Claim7.holds Tryd.pinned (.plain (OpenSpec.upto soundOrderSpec)) soundOrderUptoCard

/-- THE SECOND FORM's CARD OF 'gazetteerlaw40.SoundLists'. -/
def soundListsUptoCard : Claim7 := { stood := { row := soundListsUptoRow, standIns := [], harness := (true, "9d2668689a8ce1f5db945a49ce71f1a0fca5c7538df635ca64cd3a941231a708"), looks := true }, kinds := [], alts := [], laidByText := true, laidKinds := [.data, .data, .data, .sentinel, .sentinel], laidTests := true, laidLooks := .later }
def SoundListsUptoCardSaid : Prop := Claim7.holds Tryd.pinned (.plain (OpenSpec.upto soundListsSpec)) soundListsUptoCard
end Rows
end Go.Proofs.YtgjdbnkeamjhhaaDoor
