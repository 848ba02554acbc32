-- PRINTED BY print.sh 35421559b90ae4d0a3588c463048766b98c2df88dd9212a6774a882060cdf62d: not written by this session
import Derived.Test.YtmpmcffhlnlejaaProg
import Derived.Below
import Derived.Deep.Draws
import Derived.Deep.AppendLies
import Derived.Maps.AppendAt
import Derived.OwnWalk
import Derived.Laws.BytesArg
import Derived.Laws.MakeOwn
import Derived.Laws.OwnMore
import Derived.Deep.OwnRows
import Derived.Tactics
import Derived.Lib.ConvBytes
import Derived.Laws.Slices
import Derived.WalkKit
import Derived.KernelRfl
import Derived.RowKit3
import Derived.Deep.LoopGhost
import Derived.Deep.QuietTactic
import Derived.BigQuiet
import Derived.WideLaws
import Derived.Deep.DeepCutAuto
import Derived.Deep.CutBlock
import Derived.Deep.RegionHeld3
import Derived.Laws.Rows
import Derived.Lib.AppendStr
import Derived.ArgAppend
import Derived.Laws.IdiomCopy
import Derived.OrdersHeld
import Derived.Laws.BitsLemmas
import Derived.RowKit
import Derived.Test.YtmpmcffhlnlejaaWWords
import Derived.Test.YtmpmcffhlnlejaaWLast
import Derived.Test.YtmpmcffhlnlejaaWTab
import Derived.Test.YtmpmcffhlnlejaaWFour
import Derived.Test.YtmpmcffhlnlejaaWQPut
import Derived.Test.YtmpmcffhlnlejaaWApart
import Derived.Test.YtmpmcffhlnlejaaWArr
import Derived.Test.YtmpmcffhlnlejaaWZeros
import Derived.Test.YtmpmcffhlnlejaaWFoot
import Derived.Test.YtmpmcffhlnlejaaWKept
import Derived.Test.YtmpmcffhlnlejaaWShare
import Derived.Test.YtmpmcffhlnlejaaWN
import Derived.Test.YtmpmcffhlnlejaaWFootNe
import Derived.Test.YtmpmcffhlnlejaaWAt
import Derived.Test.YtmpmcffhlnlejaaWEqStruct
import Derived.Test.YtmpmcffhlnlejaaWRepsOne
import Derived.Test.YtmpmcffhlnlejaaWInv
import Derived.Test.YtmpmcffhlnlejaaWInvWords
import Derived.Test.YtmpmcffhlnlejaaWGuard
import Derived.Test.YtmpmcffhlnlejaaWNEv
import Derived.Test.YtmpmcffhlnlejaaWMore
namespace Go.Proofs.Ytmpmcffhlnlejaa.PMemWidths
open Go.RowKit Go.Proofs.YtmpmcffhlnlejaaW.PrintWords Go.Proofs.YtmpmcffhlnlejaaW.PrintLast Go.Proofs.YtmpmcffhlnlejaaW.PrintMore
attribute [local go_sem] max2_int min2_int max_two min_two max_three min_three max_four min_four   -- for this text's walks alone
set_option linter.unusedVariables false
set_option linter.unusedSimpArgs false



def errW : Option Int → Value
  | none => .nilIface
  | some c => .iface 0 (.int .i64 c)
theorem errW_none : errW none = .nilIface := rfl
theorem errW_some (c : Int) : errW (some c) = .iface 0 (.int .i64 c) := rfl

theorem info3 : (Try.prog.info? 3).map (fun i => (i.zero, i.size, i.bytes)) = some (some (.int .i64 0), 1, 8) := by kernel_rfl
-- the values' own types

end Go.Proofs.Ytmpmcffhlnlejaa.PMemWidths
