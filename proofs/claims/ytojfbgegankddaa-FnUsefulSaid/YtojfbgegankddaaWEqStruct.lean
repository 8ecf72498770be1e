-- The words of the walks: of the print's own words those that this claim's texts reach.
import Derived.Test.YtojfbgegankddaaWWords
import Derived.Laws.StructEq
/-! ### 53. '==' of structs as_ one Bool -/
namespace Go.Proofs.YtojfbgegankddaaW.PrintWords
open Go.RowKit
section
variable {P : Program} {d : Nat} {xs ys : Array Value} {f : Field} {fs : List Field} {a b : Value} {r s : Bool} {w : World}
end
end Go.Proofs.YtojfbgegankddaaW.PrintWords
