-- Written by the proof's own program out of the translation; Lean checks it.
import Derived.Test.YtnhpcpmgedjffaaDoorPx0
import Derived.Test.YtnhpcpmgedjffaaDoorPx1
import Derived.Test.YtnhpcpmgedjffaaDoorPx2
import Derived.Test.YtnhpcpmgedjffaaDoorPx3
import Derived.Test.YtnhpcpmgedjffaaDoorPx4
import Derived.Test.YtnhpcpmgedjffaaDoorPx5
import Derived.Test.YtnhpcpmgedjffaaDoorPx6
import Derived.Test.YtnhpcpmgedjffaaDoorPx7
import Derived.Test.YtnhpcpmgedjffaaDoorPx8
import Derived.Test.YtnhpcpmgedjffaaDoorPx9
namespace Go.Proofs.YtnhpcpmgedjffaaDoor.P
open Go.RowKit Go.Proofs.YtnhpcpmgedjffaaDoorW.PrintWords Go.Proofs.YtnhpcpmgedjffaaDoorW.PrintLast Go.Proofs.YtnhpcpmgedjffaaDoorW.PrintMore Go.Proofs.YtnhpcpmgedjffaaDoorX
attribute [local go_sem] max2_int min2_int max_two min_two max_three min_three max_four min_four   -- for this text's walks alone
set_option linter.unusedVariables false
set_option linter.unusedSimpArgs false

end Go.Proofs.YtnhpcpmgedjffaaDoor.P
