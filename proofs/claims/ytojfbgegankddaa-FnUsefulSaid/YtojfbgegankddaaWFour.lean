-- The words of the walks: of the print's own words those that this claim's texts reach.
import Derived.Test.YtojfbgegankddaaWTab
/-! ### 56. Four, five, six operations that may come up next, in any order -/
namespace Go.Proofs.YtojfbgegankddaaW.PrintLast
section
variable {P : Program} {ops : Array Oper} {Q : Exit → Act → World → Prop} {md : Region.Mode} {S : World → Prop} {ds : List Nat} {T : Bool × List (List Nat × List Nat)}
end
end Go.Proofs.YtojfbgegankddaaW.PrintLast
