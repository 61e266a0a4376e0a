/-
  DERIVED. GIVEN WITH THE SEED: THE CARDS: each row of YtfmhdfgliamkkabDoorRows.lean that lists a variable, with what it lists TIED to the program's text (the seventh form; the later family's looks); each row that meets fmt, with fmt's text TOLD by the authors' own Lean function (tested against real Go, not proved from fmt's source: count such statements apart). THE CARD IS WHAT COUNTS. Prove the row's statement (the work); the ties are given (YtfmhdfgliamkkabDoorTie.lean); close each card by the builder's one call (the guide's Derived/Test/ToyasCard.lean, 'card_holds'). Laid BY PROGRAM, IN A SANDBOX (cutbox-door.mjs). By AI agents, Wed Nov 11 2026. No macro, syntax, notation, axiom, sorry.
-/
import Derived.Test.YtfmhdfgliamkkabDoorRows
import GoSem.ClaimSeven
namespace Go.Proofs.YtfmhdfgliamkkabDoor
namespace Rows

/-- THE TIED CARD OF 'shutterlaw05.HistTexts'. -/
def histTextsCard : Claim7 := { stood := { row := histTextsRow, standIns := [], harness := (true, "3145cdad5241765fd0cffa184f479527bced30e1ad4784ba3734522de3874bfa"), looks := true }, kinds := [], alts := [], laidByText := true, laidKinds := [.data, .data, .data, .data, .sentinel, .sentinel, .pinned], laidTests := true, laidLooks := .later }
def HistTextsCardSaid : Prop := Claim7.holds Tryd.pinned (.plain (OpenSpec.ofChange histTextsSpec)) histTextsCard

/-- THE TIED CARD OF 'shutterlaw05.HistBack'. -/
def histBackCard : Claim7 := { stood := { row := histBackRow, standIns := [], harness := (true, "3145cdad5241765fd0cffa184f479527bced30e1ad4784ba3734522de3874bfa"), looks := true }, kinds := [], alts := [], laidByText := true, laidKinds := [.data, .data, .data, .data, .sentinel, .sentinel, .pinned], laidTests := true, laidLooks := .later }
def HistBackCardSaid : Prop := Claim7.holds Tryd.pinned (.plain (OpenSpec.ofChange histBackSpec)) histBackCard

/-- THE SECOND FORM's CARD OF 'shutterlaw05.HistTexts'. -/
def histTextsUptoCard : Claim7 := { stood := { row := histTextsUptoRow, standIns := [], harness := (true, "3145cdad5241765fd0cffa184f479527bced30e1ad4784ba3734522de3874bfa"), looks := true }, kinds := [], alts := [], laidByText := true, laidKinds := [.data, .data, .data, .data, .sentinel, .sentinel, .pinned], laidTests := true, laidLooks := .later }
def HistTextsUptoCardSaid : Prop := Claim7.holds Tryd.pinned (.plain (OpenSpec.upto histTextsSpec)) histTextsUptoCard

/-- THE SECOND FORM's CARD OF 'shutterlaw05.HistBack'. -/
def histBackUptoCard : Claim7 := { stood := { row := histBackUptoRow, standIns := [], harness := (true, "3145cdad5241765fd0cffa184f479527bced30e1ad4784ba3734522de3874bfa"), looks := true }, kinds := [], alts := [], laidByText := true, laidKinds := [.data, .data, .data, .data, .sentinel, .sentinel, .pinned], laidTests := true, laidLooks := .later }
def HistBackUptoCardSaid : Prop := Claim7.holds Tryd.pinned (.plain (OpenSpec.upto histBackSpec)) histBackUptoCard
end Rows
end Go.Proofs.YtfmhdfgliamkkabDoor
