/-
  No cell of these rows narrows 'for every input' (looked for: loops, veiled, ifaces, maps, wideKeys, modest, calm, conditions, laid).
  DERIVED. THE GIVEN ROWS OF THIS SEAT. 5 by the template 'for every input the law returns true; each argument reads behind the call as it read before'; 0 by the template 'total and deterministic' (their statements: YtkiofmbecjfanaaTotals.lean).
  GIVEN WITH THE SEED: the statements are not yours to turn. If you find one false, say at which input.
  Laid BY PROGRAM, IN A SANDBOX (cutbox-rows.mjs): the forced cells as the released guide's own fill.sh prints them over the translation 7f82e7b96b3c31cb… (all of the seat's roots in one cut). By AI agents, Wed Nov 11 2026. No macro, syntax, notation, axiom, sorry.
-/
import Derived.Test.YtkiofmbecjfanaaChecked
import GoSem.Claim
import GoSem.ClaimJoined
import GoSem.ClaimMapViews
import Derived.JoinedTies
import Derived.KernelRfl
namespace Go.Proofs.Ytkiofmbecjfanaa
/- THE CELL 'sum', in the pinned program and in every row, IS THE sha256 OF THE DUMP (.gsa) THAT YtkiofmbecjfanaaProg.lean LOADS. Nothing in Lean hashes anything: it is a label: what it is worth is what the hold of that sum in a sandbox is worth. -/
noncomputable def Try.pinned : Pinned := { name := "ytkiofmbecjfanaa", sum := "7f82e7b96b3c31cbc8cc4bd5d3e33bb7da05992ef4fb52ca69756cd1058e0f9d", checked := Try.checked }
namespace Rows
def none {H : Type} : Left H := { results := [], args := [] }

/-- 'shutterlaw01.WordChildren': WHATEVER THE INPUT: true; the input reads as it did. -/
def wordChildrenSpec : ChangeSpec := { name := "wordChildren", fn := fun _ => fun
  | [d1, d2, d3] => { results := [.lit (.bool true)], args := [d1, d2, d3] }
  | _ => none }
def wordChildrenRow : OpenClaim := { program := "ytkiofmbecjfanaa", sum := "7f82e7b96b3c31cbc8cc4bd5d3e33bb7da05992ef4fb52ca69756cd1058e0f9d", func := "shutter/shutterlaw01.WordChildren", spec := "wordChildren", apart := false }
def WordChildrenSaid : Prop := wordChildrenRow.holds Try.pinned (OpenSpec.ofChange wordChildrenSpec)

/-- ITS FALSE NEIGHBOUR: 'it returns false'. Refute it at one input. -/
def wordChildrenWrong : ChangeSpec := { name := "wordChildren", fn := fun _ => fun
  | [d1, d2, d3] => { results := [.lit (.bool false)], args := [d1, d2, d3] }
  | _ => none }
def WordChildrenWrongFalsely : Prop := wordChildrenRow.holds Try.pinned (OpenSpec.ofChange wordChildrenWrong)

/-- 'shutterlaw01.WordSlots': WHATEVER THE INPUT: true; the input reads as it did. -/
def wordSlotsSpec : ChangeSpec := { name := "wordSlots", fn := fun _ => fun
  | [d1, d2] => { results := [.lit (.bool true)], args := [d1, d2] }
  | _ => none }
def wordSlotsRow : OpenClaim := { program := "ytkiofmbecjfanaa", sum := "7f82e7b96b3c31cbc8cc4bd5d3e33bb7da05992ef4fb52ca69756cd1058e0f9d", func := "shutter/shutterlaw01.WordSlots", spec := "wordSlots", apart := false }
def WordSlotsSaid : Prop := wordSlotsRow.holds Try.pinned (OpenSpec.ofChange wordSlotsSpec)

/-- ITS FALSE NEIGHBOUR: 'it returns false'. Refute it at one input. -/
def wordSlotsWrong : ChangeSpec := { name := "wordSlots", fn := fun _ => fun
  | [d1, d2] => { results := [.lit (.bool false)], args := [d1, d2] }
  | _ => none }
def WordSlotsWrongFalsely : Prop := wordSlotsRow.holds Try.pinned (OpenSpec.ofChange wordSlotsWrong)

/-- 'shutterlaw01.WordHandles': WHATEVER THE INPUT: true; the input reads as it did. -/
def wordHandlesSpec : ChangeSpec := { name := "wordHandles", fn := fun _ => fun
  | [d1, d2, d3] => { results := [.lit (.bool true)], args := [d1, d2, d3] }
  | _ => none }
def wordHandlesRow : OpenClaim := { program := "ytkiofmbecjfanaa", sum := "7f82e7b96b3c31cbc8cc4bd5d3e33bb7da05992ef4fb52ca69756cd1058e0f9d", func := "shutter/shutterlaw01.WordHandles", spec := "wordHandles", apart := false }
def WordHandlesSaid : Prop := wordHandlesRow.holds Try.pinned (OpenSpec.ofChange wordHandlesSpec)

/-- ITS FALSE NEIGHBOUR: 'it returns false'. Refute it at one input. -/
def wordHandlesWrong : ChangeSpec := { name := "wordHandles", fn := fun _ => fun
  | [d1, d2, d3] => { results := [.lit (.bool false)], args := [d1, d2, d3] }
  | _ => none }
def WordHandlesWrongFalsely : Prop := wordHandlesRow.holds Try.pinned (OpenSpec.ofChange wordHandlesWrong)

/-- 'shutterlaw01.WordUnlike': WHATEVER THE INPUT: true; the input reads as it did. -/
def wordUnlikeSpec : ChangeSpec := { name := "wordUnlike", fn := fun _ => fun
  | [d1, d2, d3] => { results := [.lit (.bool true)], args := [d1, d2, d3] }
  | _ => none }
def wordUnlikeRow : OpenClaim := { program := "ytkiofmbecjfanaa", sum := "7f82e7b96b3c31cbc8cc4bd5d3e33bb7da05992ef4fb52ca69756cd1058e0f9d", func := "shutter/shutterlaw01.WordUnlike", spec := "wordUnlike", apart := false }
def WordUnlikeSaid : Prop := wordUnlikeRow.holds Try.pinned (OpenSpec.ofChange wordUnlikeSpec)

/-- ITS FALSE NEIGHBOUR: 'it returns false'. Refute it at one input. -/
def wordUnlikeWrong : ChangeSpec := { name := "wordUnlike", fn := fun _ => fun
  | [d1, d2, d3] => { results := [.lit (.bool false)], args := [d1, d2, d3] }
  | _ => none }
def WordUnlikeWrongFalsely : Prop := wordUnlikeRow.holds Try.pinned (OpenSpec.ofChange wordUnlikeWrong)

/-- 'shutterlaw01.WordWords': WHATEVER THE INPUT: true; the input reads as it did. -/
def wordWordsSpec : ChangeSpec := { name := "wordWords", fn := fun _ => fun
  | [d1, d2] => { results := [.lit (.bool true)], args := [d1, d2] }
  | _ => none }
def wordWordsRow : OpenClaim := { program := "ytkiofmbecjfanaa", sum := "7f82e7b96b3c31cbc8cc4bd5d3e33bb7da05992ef4fb52ca69756cd1058e0f9d", func := "shutter/shutterlaw01.WordWords", spec := "wordWords", apart := false }
def WordWordsSaid : Prop := wordWordsRow.holds Try.pinned (OpenSpec.ofChange wordWordsSpec)

/-- ITS FALSE NEIGHBOUR: 'it returns false'. Refute it at one input. -/
def wordWordsWrong : ChangeSpec := { name := "wordWords", fn := fun _ => fun
  | [d1, d2] => { results := [.lit (.bool false)], args := [d1, d2] }
  | _ => none }
def WordWordsWrongFalsely : Prop := wordWordsRow.holds Try.pinned (OpenSpec.ofChange wordWordsWrong)

/- THE SECOND FORM. 'bulk': how many values and letters a reading holds, each counted each time it is reached (what is shared counts as often as it is met; a slice's spare places count too). A statement '..UptoSaid' is the law's where the arguments, and the package variables that the reading takes, are together of bulk at most 1048576: NARROWER than '..Said'. Prove '..Said' where nothing that the law and all that it calls make is longer than what came in: it says more and counts as full. Else prove '..UptoSaid'. A law counts once. -/
mutual
def uptoBulk {H : Type} : DataW H → Nat
  | .lit (.string bytes) => bytes.length + 1
  | .lit _ => 1
  | .nil => 1
  | .ptr d => uptoBulk d + 1
  | .slice elems spare => uptoBulkAll elems + uptoBulkAll spare + 1
  | .agg parts => uptoBulkAll parts + 1
  | .iface _ d => uptoBulk d + 1
  | .map entries => uptoBulkEntries entries + 1
  | .held _ => 1
def uptoBulkAll {H : Type} : List (DataW H) → Nat
  | [] => 0
  | d :: r => uptoBulk d + uptoBulkAll r
def uptoBulkEntries {H : Type} : List (Lit × DataW H) → Nat
  | [] => 0
  | x :: r => uptoBulkEntry x + uptoBulkEntries r
def uptoBulkEntry {H : Type} : Lit × DataW H → Nat
  | (.string bytes, d) => bytes.length + uptoBulk d + 1
  | (_, d) => uptoBulk d + 1
 end
def uptoSmall : (H : Type) → List (DataW H) → Bool := fun _ ds => decide (uptoBulkAll ds ≤ 1048576)
def OpenSpec.upto (s : _root_.Go.ChangeSpec) : _root_.Go.OpenSpec := { _root_.Go.OpenSpec.ofChange s with cond := some uptoSmall }

/-- 'shutterlaw01.WordChildren', WHERE WHAT IT READS IS OF BULK AT MOST 1048576: true; the input reads as it did. -/
def wordChildrenUptoRow : OpenClaim := { program := "ytkiofmbecjfanaa", sum := "7f82e7b96b3c31cbc8cc4bd5d3e33bb7da05992ef4fb52ca69756cd1058e0f9d", func := "shutter/shutterlaw01.WordChildren", spec := "wordChildren", apart := false, narrowed := true }
def WordChildrenUptoSaid : Prop := wordChildrenUptoRow.holds Try.pinned (OpenSpec.upto wordChildrenSpec)

/-- 'shutterlaw01.WordSlots', WHERE WHAT IT READS IS OF BULK AT MOST 1048576: true; the input reads as it did. -/
def wordSlotsUptoRow : OpenClaim := { program := "ytkiofmbecjfanaa", sum := "7f82e7b96b3c31cbc8cc4bd5d3e33bb7da05992ef4fb52ca69756cd1058e0f9d", func := "shutter/shutterlaw01.WordSlots", spec := "wordSlots", apart := false, narrowed := true }
def WordSlotsUptoSaid : Prop := wordSlotsUptoRow.holds Try.pinned (OpenSpec.upto wordSlotsSpec)

/-- 'shutterlaw01.WordHandles', WHERE WHAT IT READS IS OF BULK AT MOST 1048576: true; the input reads as it did. -/
def wordHandlesUptoRow : OpenClaim := { program := "ytkiofmbecjfanaa", sum := "7f82e7b96b3c31cbc8cc4bd5d3e33bb7da05992ef4fb52ca69756cd1058e0f9d", func := "shutter/shutterlaw01.WordHandles", spec := "wordHandles", apart := false, narrowed := true }
def WordHandlesUptoSaid : Prop := wordHandlesUptoRow.holds Try.pinned (OpenSpec.upto wordHandlesSpec)

/-- 'shutterlaw01.WordUnlike', WHERE WHAT IT READS IS OF BULK AT MOST 1048576: true; the input reads as it did. -/
def wordUnlikeUptoRow : OpenClaim := { program := "ytkiofmbecjfanaa", sum := "7f82e7b96b3c31cbc8cc4bd5d3e33bb7da05992ef4fb52ca69756cd1058e0f9d", func := "shutter/shutterlaw01.WordUnlike", spec := "wordUnlike", apart := false, narrowed := true }
def WordUnlikeUptoSaid : Prop := wordUnlikeUptoRow.holds Try.pinned (OpenSpec.upto wordUnlikeSpec)

/-- 'shutterlaw01.WordWords', WHERE WHAT IT READS IS OF BULK AT MOST 1048576: true; the input reads as it did. -/
def wordWordsUptoRow : OpenClaim := { program := "ytkiofmbecjfanaa", sum := "7f82e7b96b3c31cbc8cc4bd5d3e33bb7da05992ef4fb52ca69756cd1058e0f9d", func := "shutter/shutterlaw01.WordWords", spec := "wordWords", apart := false, narrowed := true }
def WordWordsUptoSaid : Prop := wordWordsUptoRow.holds Try.pinned (OpenSpec.upto wordWordsSpec)

end Rows
end Go.Proofs.Ytkiofmbecjfanaa
