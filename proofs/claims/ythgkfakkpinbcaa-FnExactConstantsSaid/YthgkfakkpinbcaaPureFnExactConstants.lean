/- The pure statement of FnExactConstants: the printed functions answer true at every input that can be read. -/
import Derived.Test.YthgkfakkpinbcaaPFnExactConstantsx1
set_option linter.unusedVariables false
set_option linter.unusedSimpArgs false
namespace Go.Proofs.Ythgkfakkpinbcaa.Pure
open Go.RowKit Go.Proofs.Ythgkfakkpinbcaa.PFnExactConstants Go.Proofs.YthgkfakkpinbcaaW.PrintWords Go.Proofs.YthgkfakkpinbcaaW.PrintLast Go.Proofs.YthgkfakkpinbcaaW.PrintMore

theorem FnExactConstants : laws_FnExactConstants.Pure := rfl

end Go.Proofs.Ythgkfakkpinbcaa.Pure
