-- PRINTED BY print.sh 35421559b90ae4d0a3588c463048766b98c2df88dd9212a6774a882060cdf62d: not written by this session
import Derived.Test.YtgdblinoajmdnaaProg
import Derived.Below
import Derived.Deep.Draws
import Derived.Deep.AppendLies
import Derived.Maps.AppendAt
import Derived.OwnWalk
import Derived.Laws.BytesArg
import Derived.Laws.MakeOwn
import Derived.Laws.OwnMore
import Derived.Deep.OwnRows
import Derived.Tactics
import Derived.Lib.ConvBytes
import Derived.Laws.Slices
import Derived.WalkKit
import Derived.KernelRfl
import Derived.RowKit3
import Derived.Deep.LoopGhost
import Derived.Deep.QuietTactic
import Derived.BigQuiet
import Derived.WideLaws
import Derived.Deep.DeepCutAuto
import Derived.Deep.CutBlock
import Derived.Deep.RegionHeld3
import Derived.Laws.Rows
import Derived.Lib.AppendStr
import Derived.ArgAppend
import Derived.Laws.IdiomCopy
import Derived.OrdersHeld
import Derived.Laws.BitsLemmas
import Derived.RowKit
import Derived.Test.YtgdblinoajmdnaaWWords
import Derived.Test.YtgdblinoajmdnaaWLast
import Derived.Test.YtgdblinoajmdnaaWTab
import Derived.Test.YtgdblinoajmdnaaWFour
import Derived.Test.YtgdblinoajmdnaaWQPut
import Derived.Test.YtgdblinoajmdnaaWApart
import Derived.Test.YtgdblinoajmdnaaWArr
import Derived.Test.YtgdblinoajmdnaaWZeros
import Derived.Test.YtgdblinoajmdnaaWFoot
import Derived.Test.YtgdblinoajmdnaaWKept
import Derived.Test.YtgdblinoajmdnaaWShare
import Derived.Test.YtgdblinoajmdnaaWN
import Derived.Test.YtgdblinoajmdnaaWFootNe
import Derived.Test.YtgdblinoajmdnaaWAt
import Derived.Test.YtgdblinoajmdnaaWEqStruct
import Derived.Test.YtgdblinoajmdnaaWRepsOne
import Derived.Test.YtgdblinoajmdnaaWInv
import Derived.Test.YtgdblinoajmdnaaWInvWords
import Derived.Test.YtgdblinoajmdnaaWGuard
import Derived.Test.YtgdblinoajmdnaaWNEv
import Derived.Test.YtgdblinoajmdnaaWMore
namespace Go.Proofs.Ytgdblinoajmdnaa.PCrcStarts
open Go.RowKit Go.Proofs.YtgdblinoajmdnaaW.PrintWords Go.Proofs.YtgdblinoajmdnaaW.PrintLast Go.Proofs.YtgdblinoajmdnaaW.PrintMore
attribute [local go_sem] max2_int min2_int max_two min_two max_three min_three max_four min_four   -- for this text's walks alone
set_option linter.unusedVariables false
set_option linter.unusedSimpArgs false



def errW : Option Int → Value
  | none => .nilIface
  | some c => .iface 0 (.int .i64 c)
theorem errW_none : errW none = .nilIface := rfl
theorem errW_some (c : Int) : errW (some c) = .iface 0 (.int .i64 c) := rfl

theorem info5 : (Try.prog.info? 5).map (fun i => (i.zero, i.size, i.bytes)) = some (some (.int .u8 0), 1, 1) := by kernel_rfl
-- the values' own types

end Go.Proofs.Ytgdblinoajmdnaa.PCrcStarts
