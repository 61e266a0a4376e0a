/-
  DERIVED. GIVEN WITH THE SEED: THE CARDS: each row of YtndgfpfcdppfgaaGreatDoorRows.lean that lists a variable, with what it lists TIED to the program's text (the seventh form; the later family's looks); each row that meets fmt, with fmt's text TOLD by the authors' own Lean function (tested against real Go, not proved from fmt's source: count such statements apart). THE CARD IS WHAT COUNTS. Prove the row's statement (the work); the ties are given (YtndgfpfcdppfgaaGreatDoorTie.lean); close each card by the builder's one call (the guide's Derived/Test/ToyasCard.lean, 'card_holds'). Laid BY PROGRAM, IN A SANDBOX (cutbox-door.mjs). By AI agents, Wed Nov 11 2026. No macro, syntax, notation, axiom, sorry.
-/
import Derived.Test.YtndgfpfcdppfgaaGreatDoorRows
import GoSem.ClaimSeven
namespace Go.Proofs.YtndgfpfcdppfgaaGreatDoor
namespace Rows

/-- THE TIED CARD OF 'shuttertop.TopStamps'. -/
def topStampsCard : Claim7 := { stood := { row := topStampsRow, standIns := [], harness := (true, "a55e682f4aacdf0bcc0170d47bbec9e7045af164a6edd8819ac4a6df3e901f94"), looks := true }, kinds := [], alts := [], laidByText := true, laidKinds := [.data, .data, .data], laidTests := true, laidLooks := .later }
def TopStampsCardSaid : Prop := Claim7.holds Tryz.pinned (.plain (OpenSpec.ofChange topStampsSpec)) topStampsCard

/-- THE SECOND FORM's CARD OF 'shuttertop.TopStamps'. -/
def topStampsUptoCard : Claim7 := { stood := { row := topStampsUptoRow, standIns := [], harness := (true, "a55e682f4aacdf0bcc0170d47bbec9e7045af164a6edd8819ac4a6df3e901f94"), looks := true }, kinds := [], alts := [], laidByText := true, laidKinds := [.data, .data, .data], laidTests := true, laidLooks := .later }
def TopStampsUptoCardSaid : Prop := Claim7.holds Tryz.pinned (.plain (OpenSpec.upto topStampsSpec)) topStampsUptoCard
end Rows
end Go.Proofs.YtndgfpfcdppfgaaGreatDoor
