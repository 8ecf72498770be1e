-- The words of the walks: of the print's own words those that this claim's texts reach.
import Derived.Test.YtejnpldoakgadaaWInv
import Derived.Test.YtejnpldoakgadaaWFootNe
namespace Go.Proofs.YtejnpldoakgadaaW.PrintWords
open Go.RowKit
end Go.Proofs.YtejnpldoakgadaaW.PrintWords
namespace Go.Proofs.YtejnpldoakgadaaW.PrintLast
section
variable {ops : Array Oper} {a : Act} {o og : Oper} {g : Nat} {t : Tmp} {u : Bool}
end
end Go.Proofs.YtejnpldoakgadaaW.PrintLast
