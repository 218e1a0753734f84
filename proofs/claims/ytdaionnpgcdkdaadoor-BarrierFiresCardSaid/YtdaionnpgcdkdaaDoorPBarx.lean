/- Printed by a program of this session over the kit's print.py: the machine's side of Go functions as plain Lean functions, each with its proof. -/
import Derived.Test.YtdaionnpgcdkdaaDoorPBarx0
import Derived.Test.YtdaionnpgcdkdaaDoorPBarx1
import Derived.Test.YtdaionnpgcdkdaaDoorPBarx2
import Derived.Test.YtdaionnpgcdkdaaDoorPBarx3
import Derived.Test.YtdaionnpgcdkdaaDoorPBarx4
import Derived.Test.YtdaionnpgcdkdaaDoorPBarx5
import Derived.Test.YtdaionnpgcdkdaaDoorPBarx6
import Derived.Test.YtdaionnpgcdkdaaDoorPBarx7
import Derived.Test.YtdaionnpgcdkdaaDoorPBarx8
namespace Go.Proofs.YtdaionnpgcdkdaaDoorP.Bar
open Go.RowKit Go.Proofs.YtdaionnpgcdkdaaDoorW.PrintWords Go.Proofs.YtdaionnpgcdkdaaDoorW.PrintLast Go.Proofs.YtdaionnpgcdkdaaDoorW.PrintMore
attribute [local go_sem] max2_int min2_int max_two min_two max_three min_three max_four min_four   -- for this text's walks alone
set_option linter.unusedVariables false
set_option linter.unusedSimpArgs false

end Go.Proofs.YtdaionnpgcdkdaaDoorP.Bar
