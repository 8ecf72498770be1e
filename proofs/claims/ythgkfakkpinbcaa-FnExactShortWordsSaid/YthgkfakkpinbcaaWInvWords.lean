-- The words of the walks: of the print's own words those that this claim's texts reach.
import Derived.Test.YthgkfakkpinbcaaWInv
import Derived.Test.YthgkfakkpinbcaaWFootNe
namespace Go.Proofs.YthgkfakkpinbcaaW.PrintWords
open Go.RowKit
end Go.Proofs.YthgkfakkpinbcaaW.PrintWords
namespace Go.Proofs.YthgkfakkpinbcaaW.PrintLast
section
variable {ops : Array Oper} {a : Act} {o og : Oper} {g : Nat} {t : Tmp} {u : Bool}
end
end Go.Proofs.YthgkfakkpinbcaaW.PrintLast
