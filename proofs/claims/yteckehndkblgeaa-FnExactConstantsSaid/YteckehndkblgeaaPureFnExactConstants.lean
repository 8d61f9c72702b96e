/- The program Constants law holds: there is nothing to compare. -/
import Derived.Test.YteckehndkblgeaaPFnExactConstantsx1
import Derived.Test.YteckehndkblgeaaBase
namespace Go.Proofs.Yteckehndkblgeaa.Pure
open Go.RowKit Go.Proofs.Yteckehndkblgeaa.PFnExactConstants Go.Proofs.YteckehndkblgeaaW.PrintWords Go.Proofs.YteckehndkblgeaaW.PrintLast Go.Proofs.YteckehndkblgeaaW.PrintMore Go.Proofs.Yteckehndkblgeaa.Base
set_option linter.unusedVariables false
set_option linter.unusedSimpArgs false


theorem FnExactConstants : laws_FnExactConstants.Pure := by
  unfold laws_FnExactConstants.Pure
  rfl

end Go.Proofs.Yteckehndkblgeaa.Pure
