/- Printed by a program of this session (pr.py). -/
import Derived.Test.YtjknnifcbcdjiaaPValsAnyx0
import Derived.Test.YtjknnifcbcdjiaaPValsAnyx1
import Derived.Test.YtjknnifcbcdjiaaPValsAnyx2
import Derived.Test.YtjknnifcbcdjiaaPValsAnyx3
import Derived.Test.YtjknnifcbcdjiaaPValsAnyx4
import Derived.Test.YtjknnifcbcdjiaaPValsAnyx5
import Derived.Test.YtjknnifcbcdjiaaPValsAnyx6
import Derived.Test.YtjknnifcbcdjiaaPValsAnyx7
import Derived.Test.YtjknnifcbcdjiaaPValsAnyx8
import Derived.Test.YtjknnifcbcdjiaaPValsAnyx9
import Derived.Test.YtjknnifcbcdjiaaPValsAnyx10
namespace Go.Proofs.Ytjknnifcbcdjiaa.PValsAny
open Go.RowKit Go.Proofs.YtjknnifcbcdjiaaW.PrintWords Go.Proofs.YtjknnifcbcdjiaaW.PrintLast Go.Proofs.YtjknnifcbcdjiaaW.PrintMore
attribute [local go_sem] max2_int min2_int max_two min_two max_three min_three max_four min_four   -- for this text's walks alone
set_option linter.unusedVariables false
set_option linter.unusedSimpArgs false

end Go.Proofs.Ytjknnifcbcdjiaa.PValsAny
