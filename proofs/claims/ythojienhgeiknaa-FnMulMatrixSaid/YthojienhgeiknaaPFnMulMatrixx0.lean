-- Written by a program (wip/myprint.py): the machine side of one law: each function that it reaches, as a plain function, and the proof that a call comes to just that.
import Derived.Test.YthojienhgeiknaaProg
import Derived.Below
import Derived.Deep.Draws
import Derived.Deep.AppendLies
import Derived.Maps.AppendAt
import Derived.OwnWalk
import Derived.Laws.BytesArg
import Derived.Laws.MakeOwn
import Derived.Laws.OwnMore
import Derived.Deep.OwnRows
import Derived.Tactics
import Derived.Lib.ConvBytes
import Derived.Laws.Slices
import Derived.WalkKit
import Derived.KernelRfl
import Derived.RowKit3
import Derived.Deep.LoopGhost
import Derived.Deep.QuietTactic
import Derived.BigQuiet
import Derived.WideLaws
import Derived.Deep.DeepCutAuto
import Derived.Deep.CutBlock
import Derived.Deep.RegionHeld3
import Derived.Laws.Rows
import Derived.Lib.AppendStr
import Derived.ArgAppend
import Derived.Laws.IdiomCopy
import Derived.OrdersHeld
import Derived.Laws.BitsLemmas
import Derived.RowKit
import Derived.Test.YthojienhgeiknaaMyShort
import Derived.Test.YthojienhgeiknaaWWords
import Derived.Test.YthojienhgeiknaaWLast
import Derived.Test.YthojienhgeiknaaWTab
import Derived.Test.YthojienhgeiknaaWFour
import Derived.Test.YthojienhgeiknaaWQPut
import Derived.Test.YthojienhgeiknaaWApart
import Derived.Test.YthojienhgeiknaaWArr
import Derived.Test.YthojienhgeiknaaWZeros
import Derived.Test.YthojienhgeiknaaWFoot
import Derived.Test.YthojienhgeiknaaWKept
import Derived.Test.YthojienhgeiknaaWShare
import Derived.Test.YthojienhgeiknaaWN
import Derived.Test.YthojienhgeiknaaWFootNe
import Derived.Test.YthojienhgeiknaaWAt
import Derived.Test.YthojienhgeiknaaWEqStruct
import Derived.Test.YthojienhgeiknaaWRepsOne
import Derived.Test.YthojienhgeiknaaWInv
import Derived.Test.YthojienhgeiknaaWInvWords
import Derived.Test.YthojienhgeiknaaWGuard
import Derived.Test.YthojienhgeiknaaWNEv
import Derived.Test.YthojienhgeiknaaWMore
namespace Go.Proofs.Ythojienhgeiknaa.PFnMulMatrix
open Go.RowKit Go.Proofs.YthojienhgeiknaaW.PrintWords Go.Proofs.YthojienhgeiknaaW.PrintLast Go.Proofs.YthojienhgeiknaaW.PrintMore
attribute [local go_sem] max2_int min2_int max_two min_two max_three min_three max_four min_four   -- for this text's walks alone
set_option linter.unusedVariables false
set_option linter.unusedSimpArgs false



def errW : Option Int → Value
  | none => .nilIface
  | some c => .iface 0 (.int .i64 c)
theorem errW_none : errW none = .nilIface := rfl
theorem errW_some (c : Int) : errW (some c) = .iface 0 (.int .i64 c) := rfl

theorem info3 : (Try.prog.info? 3).map (fun i => (i.zero, i.size, i.bytes)) = some (some (.int .i64 0), 1, 8) := by kernel_rfl
theorem info5 : (Try.prog.info? 5).map (fun i => (i.zero, i.size, i.bytes)) = some (some (.int .u8 0), 1, 1) := by kernel_rfl
-- the values' own types

end Go.Proofs.Ythojienhgeiknaa.PFnMulMatrix
