/- Printed by a program of this session (pr.py). -/
import Derived.Test.YtjknnifcbcdjiaaProg
import Derived.Below
import Derived.Deep.Draws
import Derived.Deep.AppendLies
import Derived.Maps.AppendAt
import Derived.OwnWalk
import Derived.Laws.BytesArg
import Derived.Laws.MakeOwn
import Derived.Laws.OwnMore
import Derived.Deep.OwnRows
import Derived.Tactics
import Derived.Lib.ConvBytes
import Derived.Laws.Slices
import Derived.WalkKit
import Derived.KernelRfl
import Derived.RowKit3
import Derived.Deep.LoopGhost
import Derived.Deep.QuietTactic
import Derived.BigQuiet
import Derived.WideLaws
import Derived.Deep.DeepCutAuto
import Derived.Deep.CutBlock
import Derived.Deep.RegionHeld3
import Derived.Laws.Rows
import Derived.Lib.AppendStr
import Derived.ArgAppend
import Derived.Laws.IdiomCopy
import Derived.OrdersHeld
import Derived.Laws.BitsLemmas
import Derived.RowKit
import Derived.Test.YtjknnifcbcdjiaaWWords
import Derived.Test.YtjknnifcbcdjiaaWLast
import Derived.Test.YtjknnifcbcdjiaaWTab
import Derived.Test.YtjknnifcbcdjiaaWFour
import Derived.Test.YtjknnifcbcdjiaaWQPut
import Derived.Test.YtjknnifcbcdjiaaWApart
import Derived.Test.YtjknnifcbcdjiaaWArr
import Derived.Test.YtjknnifcbcdjiaaWZeros
import Derived.Test.YtjknnifcbcdjiaaWFoot
import Derived.Test.YtjknnifcbcdjiaaWKept
import Derived.Test.YtjknnifcbcdjiaaWShare
import Derived.Test.YtjknnifcbcdjiaaWN
import Derived.Test.YtjknnifcbcdjiaaWFootNe
import Derived.Test.YtjknnifcbcdjiaaWAt
import Derived.Test.YtjknnifcbcdjiaaWEqStruct
import Derived.Test.YtjknnifcbcdjiaaWRepsOne
import Derived.Test.YtjknnifcbcdjiaaWInv
import Derived.Test.YtjknnifcbcdjiaaWInvWords
import Derived.Test.YtjknnifcbcdjiaaWGuard
import Derived.Test.YtjknnifcbcdjiaaWNEv
import Derived.Test.YtjknnifcbcdjiaaWMore
namespace Go.Proofs.Ytjknnifcbcdjiaa.PFireOf
open Go.RowKit Go.Proofs.YtjknnifcbcdjiaaW.PrintWords Go.Proofs.YtjknnifcbcdjiaaW.PrintLast Go.Proofs.YtjknnifcbcdjiaaW.PrintMore
attribute [local go_sem] max2_int min2_int max_two min_two max_three min_three max_four min_four   -- for this text's walks alone
set_option linter.unusedVariables false
set_option linter.unusedSimpArgs false



def errW : Option Int → Value
 | none => .nilIface
 | some c => .iface 0 (.int .i64 c)
theorem errW_none : errW none = .nilIface := rfl
theorem errW_some (c : Int) : errW (some c) = .iface 0 (.int .i64 c) := rfl

-- the values' own types

end Go.Proofs.Ytjknnifcbcdjiaa.PFireOf
