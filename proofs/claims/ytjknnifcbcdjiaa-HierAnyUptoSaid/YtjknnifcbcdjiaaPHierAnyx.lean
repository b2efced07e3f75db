/- Printed by a program of this session (pr.py). -/
import Derived.Test.YtjknnifcbcdjiaaPHierAnyx0
import Derived.Test.YtjknnifcbcdjiaaPHierAnyx1
import Derived.Test.YtjknnifcbcdjiaaPHierAnyx2
import Derived.Test.YtjknnifcbcdjiaaPHierAnyx3
import Derived.Test.YtjknnifcbcdjiaaPHierAnyx4
import Derived.Test.YtjknnifcbcdjiaaPHierAnyx5
namespace Go.Proofs.Ytjknnifcbcdjiaa.PHierAny
open Go.RowKit Go.Proofs.YtjknnifcbcdjiaaW.PrintWords Go.Proofs.YtjknnifcbcdjiaaW.PrintLast Go.Proofs.YtjknnifcbcdjiaaW.PrintMore
attribute [local go_sem] max2_int min2_int max_two min_two max_three min_three max_four min_four   -- for this text's walks alone
set_option linter.unusedVariables false
set_option linter.unusedSimpArgs false

end Go.Proofs.Ytjknnifcbcdjiaa.PHierAny
