/-
  No cell of these rows narrows 'for every input' (looked for: loops, veiled, ifaces, maps, wideKeys, modest, calm, conditions, laid).
  DERIVED. THE GIVEN ROWS OF THIS SEAT. 3 by the template 'for every input the law returns true; each argument reads behind the call as it read before'; 0 by the template 'total and deterministic' (their statements: YtncdajjmaabcnaaTotals.lean).
  GIVEN WITH THE SEED: the statements are not yours to turn. If you find one false, say at which input.
  Laid BY PROGRAM, IN A SANDBOX (cutbox-rows.mjs): the forced cells as the released guide's own fill.sh prints them over the translation 88283c0b3216e157… (all of the seat's roots in one cut). By AI agents, Wed Nov 11 2026. No macro, syntax, notation, axiom, sorry.
-/
import Derived.Test.YtncdajjmaabcnaaChecked
import GoSem.Claim
import GoSem.ClaimJoined
import GoSem.ClaimMapViews
import Derived.JoinedTies
import Derived.KernelRfl
namespace Go.Proofs.Ytncdajjmaabcnaa
/- THE CELL 'sum', in the pinned program and in every row, IS THE sha256 OF THE DUMP (.gsa) THAT YtncdajjmaabcnaaProg.lean LOADS. Nothing in Lean hashes anything: it is a label: what it is worth is what the hold of that sum in a sandbox is worth. -/
noncomputable def Try.pinned : Pinned := { name := "ytncdajjmaabcnaa", sum := "88283c0b3216e1576699ddc0eafd7f6aaa9ba1dd301e1fcb05b19b90638a0ed6", checked := Try.checked }
namespace Rows
def none {H : Type} : Left H := { results := [], args := [] }

/-- 'shutterlaw19.ProgressBounds': WHATEVER THE INPUT: true; the input reads as it did. -/
def progressBoundsSpec : ChangeSpec := { name := "progressBounds", fn := fun _ => fun
  | [d1, d2, d3] => { results := [.lit (.bool true)], args := [d1, d2, d3] }
  | _ => none }
def progressBoundsRow : OpenClaim := { program := "ytncdajjmaabcnaa", sum := "88283c0b3216e1576699ddc0eafd7f6aaa9ba1dd301e1fcb05b19b90638a0ed6", func := "shutter/shutterlaw19.ProgressBounds", spec := "progressBounds", unfollowed := true, recurses := true, apart := false }
def ProgressBoundsSaid : Prop := progressBoundsRow.holds Try.pinned (OpenSpec.ofChange progressBoundsSpec)

/-- ITS FALSE NEIGHBOUR: 'it returns false'. Refute it at one input. -/
def progressBoundsWrong : ChangeSpec := { name := "progressBounds", fn := fun _ => fun
  | [d1, d2, d3] => { results := [.lit (.bool false)], args := [d1, d2, d3] }
  | _ => none }
def ProgressBoundsWrongFalsely : Prop := progressBoundsRow.holds Try.pinned (OpenSpec.ofChange progressBoundsWrong)

/-- 'shutterlaw19.ProgressRises': WHATEVER THE INPUT: true; the input reads as it did. -/
def progressRisesSpec : ChangeSpec := { name := "progressRises", fn := fun _ => fun
  | [d1, d2] => { results := [.lit (.bool true)], args := [d1, d2] }
  | _ => none }
def progressRisesRow : OpenClaim := { program := "ytncdajjmaabcnaa", sum := "88283c0b3216e1576699ddc0eafd7f6aaa9ba1dd301e1fcb05b19b90638a0ed6", func := "shutter/shutterlaw19.ProgressRises", spec := "progressRises", unfollowed := true, recurses := true, apart := false }
def ProgressRisesSaid : Prop := progressRisesRow.holds Try.pinned (OpenSpec.ofChange progressRisesSpec)

/-- ITS FALSE NEIGHBOUR: 'it returns false'. Refute it at one input. -/
def progressRisesWrong : ChangeSpec := { name := "progressRises", fn := fun _ => fun
  | [d1, d2] => { results := [.lit (.bool false)], args := [d1, d2] }
  | _ => none }
def ProgressRisesWrongFalsely : Prop := progressRisesRow.holds Try.pinned (OpenSpec.ofChange progressRisesWrong)

/-- 'shutterlaw19.ProgressOwn': WHATEVER THE INPUT: true; the input reads as it did. -/
def progressOwnSpec : ChangeSpec := { name := "progressOwn", fn := fun _ => fun
  | [d] => { results := [.lit (.bool true)], args := [d] }
  | _ => none }
def progressOwnRow : OpenClaim := { program := "ytncdajjmaabcnaa", sum := "88283c0b3216e1576699ddc0eafd7f6aaa9ba1dd301e1fcb05b19b90638a0ed6", func := "shutter/shutterlaw19.ProgressOwn", spec := "progressOwn", unfollowed := true, recurses := true, apart := false }
def ProgressOwnSaid : Prop := progressOwnRow.holds Try.pinned (OpenSpec.ofChange progressOwnSpec)

/-- ITS FALSE NEIGHBOUR: 'it returns false'. Refute it at one input. -/
def progressOwnWrong : ChangeSpec := { name := "progressOwn", fn := fun _ => fun
  | [d] => { results := [.lit (.bool false)], args := [d] }
  | _ => none }
def ProgressOwnWrongFalsely : Prop := progressOwnRow.holds Try.pinned (OpenSpec.ofChange progressOwnWrong)

/- THE SECOND FORM. 'bulk': how many values and letters a reading holds, each counted each time it is reached (what is shared counts as often as it is met; a slice's spare places count too). A statement '..UptoSaid' is the law's where the arguments, and the package variables that the reading takes, are together of bulk at most 1048576: NARROWER than '..Said'. Prove '..Said' where nothing that the law and all that it calls make is longer than what came in: it says more and counts as full. Else prove '..UptoSaid'. A law counts once. -/
mutual
def uptoBulk {H : Type} : DataW H → Nat
  | .lit (.string bytes) => bytes.length + 1
  | .lit _ => 1
  | .nil => 1
  | .ptr d => uptoBulk d + 1
  | .slice elems spare => uptoBulkAll elems + uptoBulkAll spare + 1
  | .agg parts => uptoBulkAll parts + 1
  | .iface _ d => uptoBulk d + 1
  | .map entries => uptoBulkEntries entries + 1
  | .held _ => 1
def uptoBulkAll {H : Type} : List (DataW H) → Nat
  | [] => 0
  | d :: r => uptoBulk d + uptoBulkAll r
def uptoBulkEntries {H : Type} : List (Lit × DataW H) → Nat
  | [] => 0
  | x :: r => uptoBulkEntry x + uptoBulkEntries r
def uptoBulkEntry {H : Type} : Lit × DataW H → Nat
  | (.string bytes, d) => bytes.length + uptoBulk d + 1
  | (_, d) => uptoBulk d + 1
 end
def uptoSmall : (H : Type) → List (DataW H) → Bool := fun _ ds => decide (uptoBulkAll ds ≤ 1048576)
def OpenSpec.upto (s : _root_.Go.ChangeSpec) : _root_.Go.OpenSpec := { _root_.Go.OpenSpec.ofChange s with cond := some uptoSmall }

/-- 'shutterlaw19.ProgressBounds', WHERE WHAT IT READS IS OF BULK AT MOST 1048576: true; the input reads as it did. -/
def progressBoundsUptoRow : OpenClaim := { program := "ytncdajjmaabcnaa", sum := "88283c0b3216e1576699ddc0eafd7f6aaa9ba1dd301e1fcb05b19b90638a0ed6", func := "shutter/shutterlaw19.ProgressBounds", spec := "progressBounds", unfollowed := true, recurses := true, apart := false, narrowed := true }
def ProgressBoundsUptoSaid : Prop := progressBoundsUptoRow.holds Try.pinned (OpenSpec.upto progressBoundsSpec)

/-- 'shutterlaw19.ProgressRises', WHERE WHAT IT READS IS OF BULK AT MOST 1048576: true; the input reads as it did. -/
def progressRisesUptoRow : OpenClaim := { program := "ytncdajjmaabcnaa", sum := "88283c0b3216e1576699ddc0eafd7f6aaa9ba1dd301e1fcb05b19b90638a0ed6", func := "shutter/shutterlaw19.ProgressRises", spec := "progressRises", unfollowed := true, recurses := true, apart := false, narrowed := true }
def ProgressRisesUptoSaid : Prop := progressRisesUptoRow.holds Try.pinned (OpenSpec.upto progressRisesSpec)

/-- 'shutterlaw19.ProgressOwn', WHERE WHAT IT READS IS OF BULK AT MOST 1048576: true; the input reads as it did. -/
def progressOwnUptoRow : OpenClaim := { program := "ytncdajjmaabcnaa", sum := "88283c0b3216e1576699ddc0eafd7f6aaa9ba1dd301e1fcb05b19b90638a0ed6", func := "shutter/shutterlaw19.ProgressOwn", spec := "progressOwn", unfollowed := true, recurses := true, apart := false, narrowed := true }
def ProgressOwnUptoSaid : Prop := progressOwnUptoRow.holds Try.pinned (OpenSpec.upto progressOwnSpec)

end Rows
end Go.Proofs.Ytncdajjmaabcnaa
