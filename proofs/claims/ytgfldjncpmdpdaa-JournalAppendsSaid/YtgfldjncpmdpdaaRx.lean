-- By a program of this session, over the kit's print.py, with contracts of this session's own. Not trusted: Lean checks it.
import Derived.Test.YtgfldjncpmdpdaaRx0
import Derived.Test.YtgfldjncpmdpdaaRx1
import Derived.Test.YtgfldjncpmdpdaaRx2
import Derived.Test.YtgfldjncpmdpdaaRx3
import Derived.Test.YtgfldjncpmdpdaaRx4
import Derived.Test.YtgfldjncpmdpdaaRx5
import Derived.Test.YtgfldjncpmdpdaaRx6
import Derived.Test.YtgfldjncpmdpdaaRx7
import Derived.Test.YtgfldjncpmdpdaaRx8
import Derived.Test.YtgfldjncpmdpdaaRx9
import Derived.Test.YtgfldjncpmdpdaaRx10
import Derived.Test.YtgfldjncpmdpdaaRx11
namespace Go.Proofs.Ytgfldjncpmdpdaa.R
open Go.RowKit Go.Proofs.YtgfldjncpmdpdaaW.PrintWords Go.Proofs.YtgfldjncpmdpdaaW.PrintLast Go.Proofs.YtgfldjncpmdpdaaW.PrintMore
attribute [local go_sem] max2_int min2_int max_two min_two max_three min_three max_four min_four   -- for this text's walks alone
set_option linter.unusedVariables false
set_option linter.unusedSimpArgs false

end Go.Proofs.Ytgfldjncpmdpdaa.R
