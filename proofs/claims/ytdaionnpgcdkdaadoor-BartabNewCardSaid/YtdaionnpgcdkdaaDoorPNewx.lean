/- Printed by a program of this session over the kit's print.py: the machine's side of Go functions as plain Lean functions, each with its proof. -/
import Derived.Test.YtdaionnpgcdkdaaDoorPNewx0
import Derived.Test.YtdaionnpgcdkdaaDoorPNewx1
import Derived.Test.YtdaionnpgcdkdaaDoorPNewx2
import Derived.Test.YtdaionnpgcdkdaaDoorPNewx3
import Derived.Test.YtdaionnpgcdkdaaDoorPNewx4
import Derived.Test.YtdaionnpgcdkdaaDoorPNewx5
import Derived.Test.YtdaionnpgcdkdaaDoorPNewx6
import Derived.Test.YtdaionnpgcdkdaaDoorPNewx7
import Derived.Test.YtdaionnpgcdkdaaDoorPNewx8
import Derived.Test.YtdaionnpgcdkdaaDoorPNewx9
namespace Go.Proofs.YtdaionnpgcdkdaaDoorP.New
open Go.RowKit Go.Proofs.YtdaionnpgcdkdaaDoorW.PrintWords Go.Proofs.YtdaionnpgcdkdaaDoorW.PrintLast Go.Proofs.YtdaionnpgcdkdaaDoorW.PrintMore
attribute [local go_sem] max2_int min2_int max_two min_two max_three min_three max_four min_four   -- for this text's walks alone
set_option linter.unusedVariables false
set_option linter.unusedSimpArgs false

end Go.Proofs.YtdaionnpgcdkdaaDoorP.New
