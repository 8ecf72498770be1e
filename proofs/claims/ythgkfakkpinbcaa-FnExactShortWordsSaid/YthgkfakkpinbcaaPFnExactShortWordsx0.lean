-- Written by a program (wip/myprint.py): the machine side of one law: each function that it reaches, as a plain function, and the proof that a call comes to just that.
import Derived.Test.YthgkfakkpinbcaaProg
import Derived.Below
import Derived.Deep.Draws
import Derived.Deep.AppendLies
import Derived.Maps.AppendAt
import Derived.OwnWalk
import Derived.Laws.BytesArg
import Derived.Laws.MakeOwn
import Derived.Laws.OwnMore
import Derived.Deep.OwnRows
import Derived.Tactics
import Derived.Lib.ConvBytes
import Derived.Laws.Slices
import Derived.WalkKit
import Derived.KernelRfl
import Derived.RowKit3
import Derived.Deep.LoopGhost
import Derived.Deep.QuietTactic
import Derived.BigQuiet
import Derived.WideLaws
import Derived.Deep.DeepCutAuto
import Derived.Deep.CutBlock
import Derived.Deep.RegionHeld3
import Derived.Laws.Rows
import Derived.Lib.AppendStr
import Derived.ArgAppend
import Derived.Laws.IdiomCopy
import Derived.OrdersHeld
import Derived.Laws.BitsLemmas
import Derived.RowKit
import Derived.Test.YthgkfakkpinbcaaMyShort
import Derived.Test.YthgkfakkpinbcaaWWords
import Derived.Test.YthgkfakkpinbcaaWLast
import Derived.Test.YthgkfakkpinbcaaWTab
import Derived.Test.YthgkfakkpinbcaaWFour
import Derived.Test.YthgkfakkpinbcaaWQPut
import Derived.Test.YthgkfakkpinbcaaWApart
import Derived.Test.YthgkfakkpinbcaaWArr
import Derived.Test.YthgkfakkpinbcaaWZeros
import Derived.Test.YthgkfakkpinbcaaWFoot
import Derived.Test.YthgkfakkpinbcaaWKept
import Derived.Test.YthgkfakkpinbcaaWShare
import Derived.Test.YthgkfakkpinbcaaWN
import Derived.Test.YthgkfakkpinbcaaWFootNe
import Derived.Test.YthgkfakkpinbcaaWAt
import Derived.Test.YthgkfakkpinbcaaWEqStruct
import Derived.Test.YthgkfakkpinbcaaWRepsOne
import Derived.Test.YthgkfakkpinbcaaWInv
import Derived.Test.YthgkfakkpinbcaaWInvWords
import Derived.Test.YthgkfakkpinbcaaWGuard
import Derived.Test.YthgkfakkpinbcaaWNEv
import Derived.Test.YthgkfakkpinbcaaWMore
namespace Go.Proofs.Ythgkfakkpinbcaa.PFnExactShortWords
open Go.RowKit Go.Proofs.YthgkfakkpinbcaaW.PrintWords Go.Proofs.YthgkfakkpinbcaaW.PrintLast Go.Proofs.YthgkfakkpinbcaaW.PrintMore
attribute [local go_sem] max2_int min2_int max_two min_two max_three min_three max_four min_four   -- for this text's walks alone
set_option linter.unusedVariables false
set_option linter.unusedSimpArgs false



def errW : Option Int → Value
  | none => .nilIface
  | some c => .iface 0 (.int .i64 c)
theorem errW_none : errW none = .nilIface := rfl
theorem errW_some (c : Int) : errW (some c) = .iface 0 (.int .i64 c) := rfl

theorem info5 : (Try.prog.info? 5).map (fun i => (i.zero, i.size, i.bytes)) = some (some (.int .u8 0), 1, 1) := by kernel_rfl
theorem info9 : (Try.prog.info? 9).map (fun i => (i.zero, i.size, i.bytes)) = some (some (.string ⟨#[]⟩), 1, 16) := by kernel_rfl
-- the values' own types

end Go.Proofs.Ythgkfakkpinbcaa.PFnExactShortWords
