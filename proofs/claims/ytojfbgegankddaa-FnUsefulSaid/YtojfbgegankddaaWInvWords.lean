-- The words of the walks: of the print's own words those that this claim's texts reach.
import Derived.Test.YtojfbgegankddaaWInv
import Derived.Test.YtojfbgegankddaaWFootNe
namespace Go.Proofs.YtojfbgegankddaaW.PrintWords
open Go.RowKit
end Go.Proofs.YtojfbgegankddaaW.PrintWords
namespace Go.Proofs.YtojfbgegankddaaW.PrintLast
section
variable {ops : Array Oper} {a : Act} {o og : Oper} {g : Nat} {t : Tmp} {u : Bool}
end
end Go.Proofs.YtojfbgegankddaaW.PrintLast
