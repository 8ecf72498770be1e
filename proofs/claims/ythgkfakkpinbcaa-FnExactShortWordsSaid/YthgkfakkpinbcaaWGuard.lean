-- The words of the walks: of the print's own words those that this claim's texts reach.
import Derived.Test.YthgkfakkpinbcaaWWords
/-! ### 58. A guarded operation whose guard is known to want it: the same goal without the guard -/
namespace Go.Proofs.YthgkfakkpinbcaaW.PrintWords
open Go.RowKit
section
variable {P : Program} {ops : Array Oper} {rest : List Oper} {o : Oper} {a : Act} {Q : Exit → Act → World → Prop} {W : World}
end
end Go.Proofs.YthgkfakkpinbcaaW.PrintWords
