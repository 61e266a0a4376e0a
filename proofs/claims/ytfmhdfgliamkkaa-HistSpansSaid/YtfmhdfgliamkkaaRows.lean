/-
  No cell of these rows narrows 'for every input' (looked for: loops, veiled, ifaces, maps, wideKeys, modest, calm, conditions, laid).
  DERIVED. THE GIVEN ROWS OF THIS SEAT. 6 by the template 'for every input the law returns true; each argument reads behind the call as it read before'; 0 by the template 'total and deterministic' (their statements: YtfmhdfgliamkkaaTotals.lean).
  GIVEN WITH THE SEED: the statements are not yours to turn. If you find one false, say at which input.
  Laid BY PROGRAM, IN A SANDBOX (cutbox-rows.mjs): the forced cells as the released guide's own fill.sh prints them over the translation a95065e42c6d5c72… (all of the seat's roots in one cut). By AI agents, Wed Nov 11 2026. No macro, syntax, notation, axiom, sorry.
-/
import Derived.Test.YtfmhdfgliamkkaaChecked
import GoSem.Claim
import GoSem.ClaimJoined
import GoSem.ClaimMapViews
import Derived.JoinedTies
import Derived.KernelRfl
namespace Go.Proofs.Ytfmhdfgliamkkaa
/- THE CELL 'sum', in the pinned program and in every row, IS THE sha256 OF THE DUMP (.gsa) THAT YtfmhdfgliamkkaaProg.lean LOADS. Nothing in Lean hashes anything: it is a label: what it is worth is what the hold of that sum in a sandbox is worth. -/
noncomputable def Try.pinned : Pinned := { name := "ytfmhdfgliamkkaa", sum := "a95065e42c6d5c7221526758e3445053b610409d4a01b3b0f782acbeee09eac1", checked := Try.checked }
namespace Rows
def none {H : Type} : Left H := { results := [], args := [] }

/-- 'shutterlaw05.HistSpans': WHATEVER THE INPUT: true; the input reads as it did. -/
def histSpansSpec : ChangeSpec := { name := "histSpans", fn := fun _ => fun
  | [d1, d2] => { results := [.lit (.bool true)], args := [d1, d2] }
  | _ => none }
def histSpansRow : OpenClaim := { program := "ytfmhdfgliamkkaa", sum := "a95065e42c6d5c7221526758e3445053b610409d4a01b3b0f782acbeee09eac1", func := "shutter/shutterlaw05.HistSpans", spec := "histSpans", apart := false }
def HistSpansSaid : Prop := histSpansRow.holds Try.pinned (OpenSpec.ofChange histSpansSpec)

/-- ITS FALSE NEIGHBOUR: 'it returns false'. Refute it at one input. -/
def histSpansWrong : ChangeSpec := { name := "histSpans", fn := fun _ => fun
  | [d1, d2] => { results := [.lit (.bool false)], args := [d1, d2] }
  | _ => none }
def HistSpansWrongFalsely : Prop := histSpansRow.holds Try.pinned (OpenSpec.ofChange histSpansWrong)

/-- 'shutterlaw05.HistEvents': WHATEVER THE INPUT: true; the input reads as it did. -/
def histEventsSpec : ChangeSpec := { name := "histEvents", fn := fun _ => fun
  | [d] => { results := [.lit (.bool true)], args := [d] }
  | _ => none }
def histEventsRow : OpenClaim := { program := "ytfmhdfgliamkkaa", sum := "a95065e42c6d5c7221526758e3445053b610409d4a01b3b0f782acbeee09eac1", func := "shutter/shutterlaw05.HistEvents", spec := "histEvents", apart := false }
def HistEventsSaid : Prop := histEventsRow.holds Try.pinned (OpenSpec.ofChange histEventsSpec)

/-- ITS FALSE NEIGHBOUR: 'it returns false'. Refute it at one input. -/
def histEventsWrong : ChangeSpec := { name := "histEvents", fn := fun _ => fun
  | [d] => { results := [.lit (.bool false)], args := [d] }
  | _ => none }
def HistEventsWrongFalsely : Prop := histEventsRow.holds Try.pinned (OpenSpec.ofChange histEventsWrong)

/-- 'shutterlaw05.HistAhead': WHATEVER THE INPUT: true; the input reads as it did. -/
def histAheadSpec : ChangeSpec := { name := "histAhead", fn := fun _ => fun
  | [d1, d2, d3] => { results := [.lit (.bool true)], args := [d1, d2, d3] }
  | _ => none }
def histAheadRow : OpenClaim := { program := "ytfmhdfgliamkkaa", sum := "a95065e42c6d5c7221526758e3445053b610409d4a01b3b0f782acbeee09eac1", func := "shutter/shutterlaw05.HistAhead", spec := "histAhead", apart := false }
def HistAheadSaid : Prop := histAheadRow.holds Try.pinned (OpenSpec.ofChange histAheadSpec)

/-- ITS FALSE NEIGHBOUR: 'it returns false'. Refute it at one input. -/
def histAheadWrong : ChangeSpec := { name := "histAhead", fn := fun _ => fun
  | [d1, d2, d3] => { results := [.lit (.bool false)], args := [d1, d2, d3] }
  | _ => none }
def HistAheadWrongFalsely : Prop := histAheadRow.holds Try.pinned (OpenSpec.ofChange histAheadWrong)

/-- 'shutterlaw05.HistFirsts': WHATEVER THE INPUT: true; the input reads as it did. -/
def histFirstsSpec : ChangeSpec := { name := "histFirsts", fn := fun _ => fun
  | [d1, d2] => { results := [.lit (.bool true)], args := [d1, d2] }
  | _ => none }
def histFirstsRow : OpenClaim := { program := "ytfmhdfgliamkkaa", sum := "a95065e42c6d5c7221526758e3445053b610409d4a01b3b0f782acbeee09eac1", func := "shutter/shutterlaw05.HistFirsts", spec := "histFirsts", unfollowed := true, recurses := true, apart := false }
def HistFirstsSaid : Prop := histFirstsRow.holds Try.pinned (OpenSpec.ofChange histFirstsSpec)

/-- ITS FALSE NEIGHBOUR: 'it returns false'. Refute it at one input. -/
def histFirstsWrong : ChangeSpec := { name := "histFirsts", fn := fun _ => fun
  | [d1, d2] => { results := [.lit (.bool false)], args := [d1, d2] }
  | _ => none }
def HistFirstsWrongFalsely : Prop := histFirstsRow.holds Try.pinned (OpenSpec.ofChange histFirstsWrong)

/-- 'shutterlaw05.HistBeginnings': WHATEVER THE INPUT: true; the input reads as it did. -/
def histBeginningsSpec : ChangeSpec := { name := "histBeginnings", fn := fun _ => fun
  | [d1, d2] => { results := [.lit (.bool true)], args := [d1, d2] }
  | _ => none }
def histBeginningsRow : OpenClaim := { program := "ytfmhdfgliamkkaa", sum := "a95065e42c6d5c7221526758e3445053b610409d4a01b3b0f782acbeee09eac1", func := "shutter/shutterlaw05.HistBeginnings", spec := "histBeginnings", apart := false }
def HistBeginningsSaid : Prop := histBeginningsRow.holds Try.pinned (OpenSpec.ofChange histBeginningsSpec)

/-- ITS FALSE NEIGHBOUR: 'it returns false'. Refute it at one input. -/
def histBeginningsWrong : ChangeSpec := { name := "histBeginnings", fn := fun _ => fun
  | [d1, d2] => { results := [.lit (.bool false)], args := [d1, d2] }
  | _ => none }
def HistBeginningsWrongFalsely : Prop := histBeginningsRow.holds Try.pinned (OpenSpec.ofChange histBeginningsWrong)

/-- 'shutterlaw05.HistOrders': WHATEVER THE INPUT: true; the input reads as it did. -/
def histOrdersSpec : ChangeSpec := { name := "histOrders", fn := fun _ => fun
  | [d1, d2] => { results := [.lit (.bool true)], args := [d1, d2] }
  | _ => none }
def histOrdersRow : OpenClaim := { program := "ytfmhdfgliamkkaa", sum := "a95065e42c6d5c7221526758e3445053b610409d4a01b3b0f782acbeee09eac1", func := "shutter/shutterlaw05.HistOrders", spec := "histOrders", apart := false }
def HistOrdersSaid : Prop := histOrdersRow.holds Try.pinned (OpenSpec.ofChange histOrdersSpec)

/-- ITS FALSE NEIGHBOUR: 'it returns false'. Refute it at one input. -/
def histOrdersWrong : ChangeSpec := { name := "histOrders", fn := fun _ => fun
  | [d1, d2] => { results := [.lit (.bool false)], args := [d1, d2] }
  | _ => none }
def HistOrdersWrongFalsely : Prop := histOrdersRow.holds Try.pinned (OpenSpec.ofChange histOrdersWrong)

/- THE SECOND FORM. 'bulk': how many values and letters a reading holds, each counted each time it is reached (what is shared counts as often as it is met; a slice's spare places count too). A statement '..UptoSaid' is the law's where the arguments, and the package variables that the reading takes, are together of bulk at most 1048576: NARROWER than '..Said'. Prove '..Said' where nothing that the law and all that it calls make is longer than what came in: it says more and counts as full. Else prove '..UptoSaid'. A law counts once. -/
mutual
def uptoBulk {H : Type} : DataW H → Nat
  | .lit (.string bytes) => bytes.length + 1
  | .lit _ => 1
  | .nil => 1
  | .ptr d => uptoBulk d + 1
  | .slice elems spare => uptoBulkAll elems + uptoBulkAll spare + 1
  | .agg parts => uptoBulkAll parts + 1
  | .iface _ d => uptoBulk d + 1
  | .map entries => uptoBulkEntries entries + 1
  | .held _ => 1
def uptoBulkAll {H : Type} : List (DataW H) → Nat
  | [] => 0
  | d :: r => uptoBulk d + uptoBulkAll r
def uptoBulkEntries {H : Type} : List (Lit × DataW H) → Nat
  | [] => 0
  | x :: r => uptoBulkEntry x + uptoBulkEntries r
def uptoBulkEntry {H : Type} : Lit × DataW H → Nat
  | (.string bytes, d) => bytes.length + uptoBulk d + 1
  | (_, d) => uptoBulk d + 1
 end
def uptoSmall : (H : Type) → List (DataW H) → Bool := fun _ ds => decide (uptoBulkAll ds ≤ 1048576)
def OpenSpec.upto (s : _root_.Go.ChangeSpec) : _root_.Go.OpenSpec := { _root_.Go.OpenSpec.ofChange s with cond := some uptoSmall }

/-- 'shutterlaw05.HistSpans', WHERE WHAT IT READS IS OF BULK AT MOST 1048576: true; the input reads as it did. -/
def histSpansUptoRow : OpenClaim := { program := "ytfmhdfgliamkkaa", sum := "a95065e42c6d5c7221526758e3445053b610409d4a01b3b0f782acbeee09eac1", func := "shutter/shutterlaw05.HistSpans", spec := "histSpans", apart := false, narrowed := true }
def HistSpansUptoSaid : Prop := histSpansUptoRow.holds Try.pinned (OpenSpec.upto histSpansSpec)

/-- 'shutterlaw05.HistEvents', WHERE WHAT IT READS IS OF BULK AT MOST 1048576: true; the input reads as it did. -/
def histEventsUptoRow : OpenClaim := { program := "ytfmhdfgliamkkaa", sum := "a95065e42c6d5c7221526758e3445053b610409d4a01b3b0f782acbeee09eac1", func := "shutter/shutterlaw05.HistEvents", spec := "histEvents", apart := false, narrowed := true }
def HistEventsUptoSaid : Prop := histEventsUptoRow.holds Try.pinned (OpenSpec.upto histEventsSpec)

/-- 'shutterlaw05.HistAhead', WHERE WHAT IT READS IS OF BULK AT MOST 1048576: true; the input reads as it did. -/
def histAheadUptoRow : OpenClaim := { program := "ytfmhdfgliamkkaa", sum := "a95065e42c6d5c7221526758e3445053b610409d4a01b3b0f782acbeee09eac1", func := "shutter/shutterlaw05.HistAhead", spec := "histAhead", apart := false, narrowed := true }
def HistAheadUptoSaid : Prop := histAheadUptoRow.holds Try.pinned (OpenSpec.upto histAheadSpec)

/-- 'shutterlaw05.HistFirsts', WHERE WHAT IT READS IS OF BULK AT MOST 1048576: true; the input reads as it did. -/
def histFirstsUptoRow : OpenClaim := { program := "ytfmhdfgliamkkaa", sum := "a95065e42c6d5c7221526758e3445053b610409d4a01b3b0f782acbeee09eac1", func := "shutter/shutterlaw05.HistFirsts", spec := "histFirsts", unfollowed := true, recurses := true, apart := false, narrowed := true }
def HistFirstsUptoSaid : Prop := histFirstsUptoRow.holds Try.pinned (OpenSpec.upto histFirstsSpec)

/-- 'shutterlaw05.HistBeginnings', WHERE WHAT IT READS IS OF BULK AT MOST 1048576: true; the input reads as it did. -/
def histBeginningsUptoRow : OpenClaim := { program := "ytfmhdfgliamkkaa", sum := "a95065e42c6d5c7221526758e3445053b610409d4a01b3b0f782acbeee09eac1", func := "shutter/shutterlaw05.HistBeginnings", spec := "histBeginnings", apart := false, narrowed := true }
def HistBeginningsUptoSaid : Prop := histBeginningsUptoRow.holds Try.pinned (OpenSpec.upto histBeginningsSpec)

/-- 'shutterlaw05.HistOrders', WHERE WHAT IT READS IS OF BULK AT MOST 1048576: true; the input reads as it did. -/
def histOrdersUptoRow : OpenClaim := { program := "ytfmhdfgliamkkaa", sum := "a95065e42c6d5c7221526758e3445053b610409d4a01b3b0f782acbeee09eac1", func := "shutter/shutterlaw05.HistOrders", spec := "histOrders", apart := false, narrowed := true }
def HistOrdersUptoSaid : Prop := histOrdersUptoRow.holds Try.pinned (OpenSpec.upto histOrdersSpec)

end Rows
end Go.Proofs.Ytfmhdfgliamkkaa
