/- PRx -/
import Derived.Test.YtokadjfakncdfaaHPRx0
import Derived.Test.YtokadjfakncdfaaHPRx1
import Derived.Test.YtokadjfakncdfaaHPRx2
import Derived.Test.YtokadjfakncdfaaHPRx3
import Derived.Test.YtokadjfakncdfaaHPRx4
import Derived.Test.YtokadjfakncdfaaHPRx5
import Derived.Test.YtokadjfakncdfaaHPRx6
namespace Go.Proofs.Ytokadjfakncdfaa.PR
open Go.RowKit Go.Proofs.YtokadjfakncdfaaW.PrintWords Go.Proofs.YtokadjfakncdfaaW.PrintLast Go.Proofs.YtokadjfakncdfaaW.PrintMore
attribute [local go_sem] max2_int min2_int max_two min_two max_three min_three max_four min_four   -- for this text's walks alone
set_option linter.unusedVariables false
set_option linter.unusedSimpArgs false
end Go.Proofs.Ytokadjfakncdfaa.PR
