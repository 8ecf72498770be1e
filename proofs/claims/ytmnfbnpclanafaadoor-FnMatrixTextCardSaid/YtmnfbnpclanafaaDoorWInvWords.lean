-- The words of the walks: of the print's own words those that this claim's texts reach.
import Derived.Test.YtmnfbnpclanafaaDoorWInv
import Derived.Test.YtmnfbnpclanafaaDoorWFootNe
namespace Go.Proofs.YtmnfbnpclanafaaDoorW.PrintWords
open Go.RowKit
end Go.Proofs.YtmnfbnpclanafaaDoorW.PrintWords
namespace Go.Proofs.YtmnfbnpclanafaaDoorW.PrintLast
section
variable {ops : Array Oper} {a : Act} {o og : Oper} {g : Nat} {t : Tmp} {u : Bool}
end
end Go.Proofs.YtmnfbnpclanafaaDoorW.PrintLast
