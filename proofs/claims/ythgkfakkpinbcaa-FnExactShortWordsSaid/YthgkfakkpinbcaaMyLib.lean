/- Small laws of this claim: what the texts of this seat import beyond the words of the walks; the steps of a region in short. -/
import Derived.Test.YthgkfakkpinbcaaMyMore
import Derived.Test.YthgkfakkpinbcaaWLast
import Derived.Test.YthgkfakkpinbcaaWTab
import Derived.Lib.Strings
import Derived.Lib.Slices
import Derived.Lib.Walk
import Derived.Lib.Bytealg
set_option linter.unusedVariables false
set_option linter.unusedSimpArgs false
namespace Go.Proofs.YthgkfakkpinbcaaW.PrintWords
open Go.RowKit
end Go.Proofs.YthgkfakkpinbcaaW.PrintWords
namespace Go.Proofs.YthgkfakkpinbcaaW.PrintLast
open Go.RowKit Go.Proofs.YthgkfakkpinbcaaW.PrintWords
/-- So many truths, off the bits of a number. -/
def bitsL : Nat → Nat → List Bool
  | 0, _ => []
  | n + 1, b => (b % 2 == 1) :: bitsL n (b / 2)
def mk (n b : Nat) : Array Bool := ⟨bitsL n b⟩
section
variable {P : Program} {md : Region.Mode} {ops : Array Oper} {Q : Exit → Act → World → Prop} {S : World → Prop} {ds : List Nat}
end
end Go.Proofs.YthgkfakkpinbcaaW.PrintLast
