/- Contracts of functions that the printer does not take, in the printer's own form. No condition. -/
import Derived.Test.YthlbbngmgioamaaProg

import Derived.Test.YthlbbngmgioamaaWWords
import Derived.Test.YthlbbngmgioamaaWLast
import Derived.Test.YthlbbngmgioamaaWMore
import Derived.WalkKit
import Derived.KernelRfl
import Derived.Below
namespace Go.Proofs.Ythlbbngmgioamaa.Stub
open Go.RowKit Go.Proofs.YthlbbngmgioamaaW.PrintWords Go.Proofs.YthlbbngmgioamaaW.PrintLast 
set_option linter.unusedVariables false
set_option linter.unusedSimpArgs false

end Go.Proofs.Ythlbbngmgioamaa.Stub
