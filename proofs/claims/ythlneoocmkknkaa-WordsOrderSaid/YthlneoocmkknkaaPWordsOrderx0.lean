-- PRINTED BY print.sh 35421559b90ae4d0a3588c463048766b98c2df88dd9212a6774a882060cdf62d: not written by this session
import Derived.Test.YthlneoocmkknkaaProg
import Derived.Below
import Derived.Deep.Draws
import Derived.Deep.AppendLies
import Derived.Maps.AppendAt
import Derived.OwnWalk
import Derived.Laws.BytesArg
import Derived.Laws.MakeOwn
import Derived.Laws.OwnMore
import Derived.Deep.OwnRows
import Derived.Tactics
import Derived.Lib.ConvBytes
import Derived.Laws.Slices
import Derived.WalkKit
import Derived.KernelRfl
import Derived.RowKit3
import Derived.Deep.LoopGhost
import Derived.Deep.QuietTactic
import Derived.BigQuiet
import Derived.WideLaws
import Derived.Deep.DeepCutAuto
import Derived.Deep.CutBlock
import Derived.Deep.RegionHeld3
import Derived.Laws.Rows
import Derived.Lib.AppendStr
import Derived.ArgAppend
import Derived.Laws.IdiomCopy
import Derived.OrdersHeld
import Derived.Laws.BitsLemmas
import Derived.RowKit
import Derived.Test.YthlneoocmkknkaaWWords
import Derived.Test.YthlneoocmkknkaaWLast
import Derived.Test.YthlneoocmkknkaaWTab
import Derived.Test.YthlneoocmkknkaaWFour
import Derived.Test.YthlneoocmkknkaaWQPut
import Derived.Test.YthlneoocmkknkaaWApart
import Derived.Test.YthlneoocmkknkaaWArr
import Derived.Test.YthlneoocmkknkaaWZeros
import Derived.Test.YthlneoocmkknkaaWFoot
import Derived.Test.YthlneoocmkknkaaWKept
import Derived.Test.YthlneoocmkknkaaWShare
import Derived.Test.YthlneoocmkknkaaWN
import Derived.Test.YthlneoocmkknkaaWFootNe
import Derived.Test.YthlneoocmkknkaaWAt
import Derived.Test.YthlneoocmkknkaaWEqStruct
import Derived.Test.YthlneoocmkknkaaWRepsOne
import Derived.Test.YthlneoocmkknkaaWInv
import Derived.Test.YthlneoocmkknkaaWInvWords
import Derived.Test.YthlneoocmkknkaaWGuard
import Derived.Test.YthlneoocmkknkaaWNEv
import Derived.Test.YthlneoocmkknkaaWMore
namespace Go.Proofs.Ythlneoocmkknkaa.PWordsOrder
open Go.RowKit Go.Proofs.YthlneoocmkknkaaW.PrintWords Go.Proofs.YthlneoocmkknkaaW.PrintLast Go.Proofs.YthlneoocmkknkaaW.PrintMore
attribute [local go_sem] max2_int min2_int max_two min_two max_three min_three max_four min_four   -- for this text's walks alone
set_option linter.unusedVariables false
set_option linter.unusedSimpArgs false



def errW : Option Int → Value
  | none => .nilIface
  | some c => .iface 0 (.int .i64 c)
theorem errW_none : errW none = .nilIface := rfl
theorem errW_some (c : Int) : errW (some c) = .iface 0 (.int .i64 c) := rfl

theorem info36 : (Try.prog.info? 36).map (fun i => (i.zero, i.size, i.bytes)) = some (some (.int .u8 0), 1, 1) := by kernel_rfl
-- the values' own types

end Go.Proofs.Ythlneoocmkknkaa.PWordsOrder
