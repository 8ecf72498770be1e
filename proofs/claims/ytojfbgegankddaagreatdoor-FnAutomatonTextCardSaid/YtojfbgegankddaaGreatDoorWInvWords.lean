-- The words of the walks: of the print's own words those that this claim's texts reach.
import Derived.Test.YtojfbgegankddaaGreatDoorWInv
import Derived.Test.YtojfbgegankddaaGreatDoorWFootNe
namespace Go.Proofs.YtojfbgegankddaaGreatDoorW.PrintWords
open Go.RowKit
end Go.Proofs.YtojfbgegankddaaGreatDoorW.PrintWords
namespace Go.Proofs.YtojfbgegankddaaGreatDoorW.PrintLast
section
variable {ops : Array Oper} {a : Act} {o og : Oper} {g : Nat} {t : Tmp} {u : Bool}
end
end Go.Proofs.YtojfbgegankddaaGreatDoorW.PrintLast
