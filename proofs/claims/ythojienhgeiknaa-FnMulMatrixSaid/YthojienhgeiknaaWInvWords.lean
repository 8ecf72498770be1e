-- The words of the walks: of the print's own words those that this claim's texts reach.
import Derived.Test.YthojienhgeiknaaWInv
import Derived.Test.YthojienhgeiknaaWFootNe
namespace Go.Proofs.YthojienhgeiknaaW.PrintWords
open Go.RowKit
end Go.Proofs.YthojienhgeiknaaW.PrintWords
namespace Go.Proofs.YthojienhgeiknaaW.PrintLast
section
variable {ops : Array Oper} {a : Act} {o og : Oper} {g : Nat} {t : Tmp} {u : Bool}
end
end Go.Proofs.YthojienhgeiknaaW.PrintLast
