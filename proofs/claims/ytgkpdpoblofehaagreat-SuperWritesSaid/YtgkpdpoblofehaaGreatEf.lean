/- The document's record: begun, ended. -/
import Derived.Test.YtgkpdpoblofehaaGreatEd
set_option maxRecDepth 8000
set_option linter.unusedVariables false
set_option linter.unusedSimpArgs false
set_option linter.unusedSectionVars false
namespace Go.Proofs.YtgkpdpoblofehaaGreat
open Go.RowKit Go.Sl
attribute [local irreducible] Own

end Go.Proofs.YtgkpdpoblofehaaGreat
