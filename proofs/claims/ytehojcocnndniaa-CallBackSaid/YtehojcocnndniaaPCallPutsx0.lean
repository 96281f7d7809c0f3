-- PRINTED BY print.sh 35421559b90ae4d0a3588c463048766b98c2df88dd9212a6774a882060cdf62d: not written by this session
import Derived.Test.YtehojcocnndniaaProg
import Derived.Below
import Derived.Deep.Draws
import Derived.Deep.AppendLies
import Derived.Maps.AppendAt
import Derived.OwnWalk
import Derived.Laws.BytesArg
import Derived.Laws.MakeOwn
import Derived.Laws.OwnMore
import Derived.Deep.OwnRows
import Derived.Tactics
import Derived.Lib.ConvBytes
import Derived.Laws.Slices
import Derived.WalkKit
import Derived.KernelRfl
import Derived.RowKit3
import Derived.Deep.LoopGhost
import Derived.Deep.QuietTactic
import Derived.BigQuiet
import Derived.WideLaws
import Derived.Deep.DeepCutAuto
import Derived.Deep.CutBlock
import Derived.Deep.RegionHeld3
import Derived.Laws.Rows
import Derived.Lib.AppendStr
import Derived.ArgAppend
import Derived.Laws.IdiomCopy
import Derived.OrdersHeld
import Derived.Laws.BitsLemmas
import Derived.RowKit
import Derived.Test.YtehojcocnndniaaWWords
import Derived.Test.YtehojcocnndniaaWLast
import Derived.Test.YtehojcocnndniaaWTab
import Derived.Test.YtehojcocnndniaaWFour
import Derived.Test.YtehojcocnndniaaWQPut
import Derived.Test.YtehojcocnndniaaWApart
import Derived.Test.YtehojcocnndniaaWArr
import Derived.Test.YtehojcocnndniaaWZeros
import Derived.Test.YtehojcocnndniaaWFoot
import Derived.Test.YtehojcocnndniaaWKept
import Derived.Test.YtehojcocnndniaaWShare
import Derived.Test.YtehojcocnndniaaWN
import Derived.Test.YtehojcocnndniaaWFootNe
import Derived.Test.YtehojcocnndniaaWAt
import Derived.Test.YtehojcocnndniaaWEqStruct
import Derived.Test.YtehojcocnndniaaWRepsOne
import Derived.Test.YtehojcocnndniaaWInv
import Derived.Test.YtehojcocnndniaaWInvWords
import Derived.Test.YtehojcocnndniaaWGuard
import Derived.Test.YtehojcocnndniaaWNEv
import Derived.Test.YtehojcocnndniaaWMore
namespace Go.Proofs.Ytehojcocnndniaa.PCallPuts
open Go.RowKit Go.Proofs.YtehojcocnndniaaW.PrintWords Go.Proofs.YtehojcocnndniaaW.PrintLast Go.Proofs.YtehojcocnndniaaW.PrintMore
attribute [local go_sem] max2_int min2_int max_two min_two max_three min_three max_four min_four   -- for this text's walks alone
set_option linter.unusedVariables false
set_option linter.unusedSimpArgs false



def errW : Option Int → Value
  | none => .nilIface
  | some c => .iface 0 (.int .i64 c)
theorem errW_none : errW none = .nilIface := rfl
theorem errW_some (c : Int) : errW (some c) = .iface 0 (.int .i64 c) := rfl

theorem info5 : (Try.prog.info? 5).map (fun i => (i.zero, i.size, i.bytes)) = some (some (.int .u8 0), 1, 1) := by kernel_rfl
-- the values' own types

end Go.Proofs.Ytehojcocnndniaa.PCallPuts
