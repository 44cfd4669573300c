-- By a program of this session (wip/tools/myprint.py), out of the translation.
import Derived.Test.YtnomgmlfagiffaaDoorT0Mt
import Derived.Test.YtnomgmlfagiffaaDoorT5Mt
import Derived.Test.YtnomgmlfagiffaaDoorT6Mt
import Derived.Test.YtnomgmlfagiffaaDoorGLaidMt
namespace Go.Proofs.YtnomgmlfagiffaaDoor.T
open Go.RowKit Go.Proofs.YtnomgmlfagiffaaDoorW.PrintWords Go.Proofs.YtnomgmlfagiffaaDoorW.PrintLast Go.Proofs.YtnomgmlfagiffaaDoorW.PrintMore
attribute [local go_sem] max2_int min2_int max_two min_two max_three min_three max_four min_four   -- for this text's walks alone
set_option linter.unusedVariables false
set_option linter.unusedSimpArgs false

-- NOT PRINTED: function 13 (hearsaylaw02_lent)

-- NOT PRINTED: function 17 (hearsaylaw02_still)

-- NOT PRINTED: function 18 (hearsaylaw02_kept)

end Go.Proofs.YtnomgmlfagiffaaDoor.T
