-- Laid by a program of this session (a changed copy of the kit's printer); Lean checks every line.
import Derived.Test.YtiagbfilffbljaaPFnExactStorex0
import Derived.Test.YtiagbfilffbljaaPFnExactStorex1
import Derived.Test.YtiagbfilffbljaaPFnExactStorex2
import Derived.Test.YtiagbfilffbljaaPFnExactStorex3
import Derived.Test.YtiagbfilffbljaaPFnExactStorex4
namespace Go.Proofs.Ytiagbfilffbljaa.PFnExactStore
open Go.RowKit Go.Proofs.YtiagbfilffbljaaW.PrintWords Go.Proofs.YtiagbfilffbljaaW.PrintLast Go.Proofs.YtiagbfilffbljaaW.PrintMore
attribute [local go_sem] max2_int min2_int max_two min_two max_three min_three max_four min_four   -- for this text's walks alone
set_option linter.unusedVariables false
set_option linter.unusedSimpArgs false

end Go.Proofs.Ytiagbfilffbljaa.PFnExactStore
