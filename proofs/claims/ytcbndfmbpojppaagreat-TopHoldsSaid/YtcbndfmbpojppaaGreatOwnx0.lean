-- Written by a program of this session (wip/tools/gprint.py: the kit's printer, some callees' contracts given by hand). Lean checks it.
import Derived.Test.YtcbndfmbpojppaaGreatProg
import Derived.Below
import Derived.Deep.Draws
import Derived.Deep.AppendLies
import Derived.Maps.AppendAt
import Derived.OwnWalk
import Derived.Laws.BytesArg
import Derived.Laws.MakeOwn
import Derived.Laws.OwnMore
import Derived.Deep.OwnRows
import Derived.Tactics
import Derived.Lib.ConvBytes
import Derived.Laws.Slices
import Derived.WalkKit
import Derived.KernelRfl
import Derived.RowKit3
import Derived.Deep.LoopGhost
import Derived.Deep.QuietTactic
import Derived.BigQuiet
import Derived.WideLaws
import Derived.Deep.DeepCutAuto
import Derived.Deep.CutBlock
import Derived.Deep.RegionHeld3
import Derived.Laws.Rows
import Derived.Lib.AppendStr
import Derived.ArgAppend
import Derived.Laws.IdiomCopy
import Derived.OrdersHeld
import Derived.Laws.BitsLemmas
import Derived.RowKit
import Derived.Test.YtcbndfmbpojppaaGreatWWords
import Derived.Test.YtcbndfmbpojppaaGreatWLast
import Derived.Test.YtcbndfmbpojppaaGreatWTab
import Derived.Test.YtcbndfmbpojppaaGreatWFour
import Derived.Test.YtcbndfmbpojppaaGreatWQPut
import Derived.Test.YtcbndfmbpojppaaGreatWApart
import Derived.Test.YtcbndfmbpojppaaGreatWArr
import Derived.Test.YtcbndfmbpojppaaGreatWZeros
import Derived.Test.YtcbndfmbpojppaaGreatWFoot
import Derived.Test.YtcbndfmbpojppaaGreatWKept
import Derived.Test.YtcbndfmbpojppaaGreatWShare
import Derived.Test.YtcbndfmbpojppaaGreatWN
import Derived.Test.YtcbndfmbpojppaaGreatWFootNe
import Derived.Test.YtcbndfmbpojppaaGreatWAt
import Derived.Test.YtcbndfmbpojppaaGreatWEqStruct
import Derived.Test.YtcbndfmbpojppaaGreatWRepsOne
import Derived.Test.YtcbndfmbpojppaaGreatWInv
import Derived.Test.YtcbndfmbpojppaaGreatWInvWords
import Derived.Test.YtcbndfmbpojppaaGreatWGuard
import Derived.Test.YtcbndfmbpojppaaGreatWNEv
import Derived.Test.YtcbndfmbpojppaaGreatWMore
namespace Go.Proofs.YtcbndfmbpojppaaGreat.Own
open Go.RowKit Go.Proofs.YtcbndfmbpojppaaGreatW.PrintWords Go.Proofs.YtcbndfmbpojppaaGreatW.PrintLast Go.Proofs.YtcbndfmbpojppaaGreatW.PrintMore
attribute [local go_sem] max2_int min2_int max_two min_two max_three min_three max_four min_four   -- for this text's walks alone
set_option linter.unusedVariables false
set_option linter.unusedSimpArgs false



def errW : Option Int → Value
  | none => .nilIface
  | some c => .iface 0 (.int .i64 c)
theorem errW_none : errW none = .nilIface := rfl
theorem errW_some (c : Int) : errW (some c) = .iface 0 (.int .i64 c) := rfl

-- the values' own types

end Go.Proofs.YtcbndfmbpojppaaGreat.Own
