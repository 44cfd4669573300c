/- What the rows' lists of package variables say. -/
import Derived.Test.YtnomgmlfagiffaaDoorFrameMt
import Derived.Test.YtnomgmlfagiffaaDoorGLaidMt
set_option linter.unusedVariables false
namespace Go.Proofs.YtnomgmlfagiffaaDoor.T
open Go.ChangeShapes Go.WideShapes Go.ChangeAt Go.RowKit Go.Deep Go.Proofs.YtnomgmlfagiffaaDoorW.PrintWords
end Go.Proofs.YtnomgmlfagiffaaDoor.T
