-- Written by a program (wip/myprint.py): the machine side of one law: each function that it reaches, as a plain function, and the proof that a call comes to just that.
import Derived.Test.YtmnfbnpclanafaaDoorProg
import Derived.Below
import Derived.Deep.Draws
import Derived.Deep.AppendLies
import Derived.Maps.AppendAt
import Derived.OwnWalk
import Derived.Laws.BytesArg
import Derived.Laws.MakeOwn
import Derived.Laws.OwnMore
import Derived.Deep.OwnRows
import Derived.Tactics
import Derived.Lib.ConvBytes
import Derived.Laws.Slices
import Derived.WalkKit
import Derived.KernelRfl
import Derived.RowKit3
import Derived.Deep.LoopGhost
import Derived.Deep.QuietTactic
import Derived.BigQuiet
import Derived.WideLaws
import Derived.Deep.DeepCutAuto
import Derived.Deep.CutBlock
import Derived.Deep.RegionHeld3
import Derived.Laws.Rows
import Derived.Lib.AppendStr
import Derived.ArgAppend
import Derived.Laws.IdiomCopy
import Derived.OrdersHeld
import Derived.Laws.BitsLemmas
import Derived.RowKit
import Derived.Test.YtmnfbnpclanafaaDoorMyDoor
import Derived.Test.YtmnfbnpclanafaaDoorMyShort
import Derived.Test.YtmnfbnpclanafaaDoorWWords
import Derived.Test.YtmnfbnpclanafaaDoorWLast
import Derived.Test.YtmnfbnpclanafaaDoorWTab
import Derived.Test.YtmnfbnpclanafaaDoorWFour
import Derived.Test.YtmnfbnpclanafaaDoorWQPut
import Derived.Test.YtmnfbnpclanafaaDoorWApart
import Derived.Test.YtmnfbnpclanafaaDoorWArr
import Derived.Test.YtmnfbnpclanafaaDoorWZeros
import Derived.Test.YtmnfbnpclanafaaDoorWFoot
import Derived.Test.YtmnfbnpclanafaaDoorWKept
import Derived.Test.YtmnfbnpclanafaaDoorWShare
import Derived.Test.YtmnfbnpclanafaaDoorWN
import Derived.Test.YtmnfbnpclanafaaDoorWFootNe
import Derived.Test.YtmnfbnpclanafaaDoorWAt
import Derived.Test.YtmnfbnpclanafaaDoorWEqStruct
import Derived.Test.YtmnfbnpclanafaaDoorWRepsOne
import Derived.Test.YtmnfbnpclanafaaDoorWInv
import Derived.Test.YtmnfbnpclanafaaDoorWInvWords
import Derived.Test.YtmnfbnpclanafaaDoorWGuard
import Derived.Test.YtmnfbnpclanafaaDoorWNEv
import Derived.Test.YtmnfbnpclanafaaDoorWMore
namespace Go.Proofs.YtmnfbnpclanafaaDoor.PGP
open Go.RowKit Go.Proofs.YtmnfbnpclanafaaDoorW.PrintWords Go.Proofs.YtmnfbnpclanafaaDoorW.PrintLast Go.Proofs.YtmnfbnpclanafaaDoorW.PrintMore
attribute [local go_sem] max2_int min2_int max_two min_two max_three min_three max_four min_four   -- for this text's walks alone
set_option linter.unusedVariables false
set_option linter.unusedSimpArgs false



def errW : Option Int → Value
  | none => .nilIface
  | some c => .iface 91 (.int .i64 c)
theorem errW_none : errW none = .nilIface := rfl
theorem errW_some (c : Int) : errW (some c) = .iface 91 (.int .i64 c) := rfl

theorem info3 : (Tryd.prog.info? 3).map (fun i => (i.zero, i.size, i.bytes)) = some (some (.int .i64 0), 1, 8) := by kernel_rfl
theorem info5 : (Tryd.prog.info? 5).map (fun i => (i.zero, i.size, i.bytes)) = some (some (.int .u8 0), 1, 1) := by kernel_rfl
theorem info9 : (Tryd.prog.info? 9).map (fun i => (i.zero, i.size, i.bytes)) = some (some (.string ⟨#[]⟩), 1, 16) := by kernel_rfl
-- the values' own types

end Go.Proofs.YtmnfbnpclanafaaDoor.PGP
