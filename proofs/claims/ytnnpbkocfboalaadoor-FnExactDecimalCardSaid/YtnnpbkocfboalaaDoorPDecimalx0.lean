-- PRINTED BY print.sh 35421559b90ae4d0a3588c463048766b98c2df88dd9212a6774a882060cdf62d: not written by this session
import Derived.Test.YtnnpbkocfboalaaDoorProg
import Derived.Below
import Derived.Deep.Draws
import Derived.Deep.AppendLies
import Derived.Maps.AppendAt
import Derived.OwnWalk
import Derived.Laws.BytesArg
import Derived.Laws.MakeOwn
import Derived.Laws.OwnMore
import Derived.Deep.OwnRows
import Derived.Tactics
import Derived.Lib.ConvBytes
import Derived.Laws.Slices
import Derived.WalkKit
import Derived.KernelRfl
import Derived.RowKit3
import Derived.Deep.LoopGhost
import Derived.Deep.QuietTactic
import Derived.BigQuiet
import Derived.WideLaws
import Derived.Deep.DeepCutAuto
import Derived.Deep.CutBlock
import Derived.Deep.RegionHeld3
import Derived.Laws.Rows
import Derived.Lib.AppendStr
import Derived.ArgAppend
import Derived.Laws.IdiomCopy
import Derived.OrdersHeld
import Derived.Laws.BitsLemmas
import Derived.RowKit
import Derived.Test.YtnnpbkocfboalaaDoorWWords
import Derived.Test.YtnnpbkocfboalaaDoorWLast
import Derived.Test.YtnnpbkocfboalaaDoorWTab
import Derived.Test.YtnnpbkocfboalaaDoorWFour
import Derived.Test.YtnnpbkocfboalaaDoorWQPut
import Derived.Test.YtnnpbkocfboalaaDoorWApart
import Derived.Test.YtnnpbkocfboalaaDoorWArr
import Derived.Test.YtnnpbkocfboalaaDoorWZeros
import Derived.Test.YtnnpbkocfboalaaDoorWFoot
import Derived.Test.YtnnpbkocfboalaaDoorWKept
import Derived.Test.YtnnpbkocfboalaaDoorWShare
import Derived.Test.YtnnpbkocfboalaaDoorWN
import Derived.Test.YtnnpbkocfboalaaDoorWFootNe
import Derived.Test.YtnnpbkocfboalaaDoorWAt
import Derived.Test.YtnnpbkocfboalaaDoorWEqStruct
import Derived.Test.YtnnpbkocfboalaaDoorWRepsOne
import Derived.Test.YtnnpbkocfboalaaDoorWInv
import Derived.Test.YtnnpbkocfboalaaDoorWInvWords
import Derived.Test.YtnnpbkocfboalaaDoorWGuard
import Derived.Test.YtnnpbkocfboalaaDoorWNEv
import Derived.Test.YtnnpbkocfboalaaDoorWMore
namespace Go.Proofs.YtnnpbkocfboalaaDoor.PDecimal
open Go.RowKit Go.Proofs.YtnnpbkocfboalaaDoorW.PrintWords Go.Proofs.YtnnpbkocfboalaaDoorW.PrintLast Go.Proofs.YtnnpbkocfboalaaDoorW.PrintMore
attribute [local go_sem] max2_int min2_int max_two min_two max_three min_three max_four min_four   -- for this text's walks alone
set_option linter.unusedVariables false
set_option linter.unusedSimpArgs false



def errW : Option Int → Value
  | none => .nilIface
  | some c => .iface 0 (.int .i64 c)
theorem errW_none : errW none = .nilIface := rfl
theorem errW_some (c : Int) : errW (some c) = .iface 0 (.int .i64 c) := rfl

theorem info5 : (Tryd.prog.info? 5).map (fun i => (i.zero, i.size, i.bytes)) = some (some (.int .u8 0), 1, 1) := by kernel_rfl
-- the values' own types

end Go.Proofs.YtnnpbkocfboalaaDoor.PDecimal
