-- Written by a program of this session (wip/tools/gprint.py: the kit's printer, some callees' contracts given by hand). Lean checks it.
import Derived.Test.YtkiofmbecjfanaaDoorProg
import Derived.Below
import Derived.Deep.Draws
import Derived.Deep.AppendLies
import Derived.Maps.AppendAt
import Derived.OwnWalk
import Derived.Laws.BytesArg
import Derived.Laws.MakeOwn
import Derived.Laws.OwnMore
import Derived.Deep.OwnRows
import Derived.Tactics
import Derived.Lib.ConvBytes
import Derived.Laws.Slices
import Derived.WalkKit
import Derived.KernelRfl
import Derived.RowKit3
import Derived.Deep.LoopGhost
import Derived.Deep.QuietTactic
import Derived.BigQuiet
import Derived.WideLaws
import Derived.Deep.DeepCutAuto
import Derived.Deep.CutBlock
import Derived.Deep.RegionHeld3
import Derived.Laws.Rows
import Derived.Lib.AppendStr
import Derived.ArgAppend
import Derived.Laws.IdiomCopy
import Derived.OrdersHeld
import Derived.Laws.BitsLemmas
import Derived.RowKit
import Derived.Test.YtkiofmbecjfanaaDoorWWords
import Derived.Test.YtkiofmbecjfanaaDoorWLast
import Derived.Test.YtkiofmbecjfanaaDoorWTab
import Derived.Test.YtkiofmbecjfanaaDoorWFour
import Derived.Test.YtkiofmbecjfanaaDoorWQPut
import Derived.Test.YtkiofmbecjfanaaDoorWApart
import Derived.Test.YtkiofmbecjfanaaDoorWArr
import Derived.Test.YtkiofmbecjfanaaDoorWZeros
import Derived.Test.YtkiofmbecjfanaaDoorWFoot
import Derived.Test.YtkiofmbecjfanaaDoorWKept
import Derived.Test.YtkiofmbecjfanaaDoorWShare
import Derived.Test.YtkiofmbecjfanaaDoorWN
import Derived.Test.YtkiofmbecjfanaaDoorWFootNe
import Derived.Test.YtkiofmbecjfanaaDoorWAt
import Derived.Test.YtkiofmbecjfanaaDoorWEqStruct
import Derived.Test.YtkiofmbecjfanaaDoorWRepsOne
import Derived.Test.YtkiofmbecjfanaaDoorWInv
import Derived.Test.YtkiofmbecjfanaaDoorWInvWords
import Derived.Test.YtkiofmbecjfanaaDoorWGuard
import Derived.Test.YtkiofmbecjfanaaDoorWNEv
import Derived.Test.YtkiofmbecjfanaaDoorWMore
namespace Go.Proofs.YtkiofmbecjfanaaDoor.Own
open Go.RowKit Go.Proofs.YtkiofmbecjfanaaDoorW.PrintWords Go.Proofs.YtkiofmbecjfanaaDoorW.PrintLast Go.Proofs.YtkiofmbecjfanaaDoorW.PrintMore
attribute [local go_sem] max2_int min2_int max_two min_two max_three min_three max_four min_four   -- for this text's walks alone
set_option linter.unusedVariables false
set_option linter.unusedSimpArgs false



def errW : Option Int → Value
  | none => .nilIface
  | some c => .iface 0 (.int .i64 c)
theorem errW_none : errW none = .nilIface := rfl
theorem errW_some (c : Int) : errW (some c) = .iface 0 (.int .i64 c) := rfl

-- the values' own types

end Go.Proofs.YtkiofmbecjfanaaDoor.Own
