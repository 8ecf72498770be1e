-- The words of the walks: of the print's own words those that this claim's texts reach.

import Derived.SizedLaws
import Derived.ChangeSlices
namespace Go.Proofs.YtejnpldoakgadaaW.PrintWords
open Go.ChangeShapes Go.WideShapes
end Go.Proofs.YtejnpldoakgadaaW.PrintWords
