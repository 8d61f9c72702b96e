/- Written by the kit's print.py, called by our own print2.sh with one import more; not by print.sh. -/
import Derived.Test.YtogifkjkbfdocaaDoorProg
import Derived.Below
import Derived.Deep.Draws
import Derived.Deep.AppendLies
import Derived.Maps.AppendAt
import Derived.OwnWalk
import Derived.Laws.BytesArg
import Derived.Laws.MakeOwn
import Derived.Laws.OwnMore
import Derived.Deep.OwnRows
import Derived.Tactics
import Derived.Lib.ConvBytes
import Derived.Laws.Slices
import Derived.WalkKit
import Derived.KernelRfl
import Derived.RowKit3
import Derived.Deep.LoopGhost
import Derived.Deep.QuietTactic
import Derived.BigQuiet
import Derived.WideLaws
import Derived.Deep.DeepCutAuto
import Derived.Deep.CutBlock
import Derived.Deep.RegionHeld3
import Derived.Laws.Rows
import Derived.Lib.AppendStr
import Derived.ArgAppend
import Derived.Laws.IdiomCopy
import Derived.OrdersHeld
import Derived.Laws.BitsLemmas
import Derived.RowKit
import Derived.WalkLawsBesides
import Derived.Test.YtogifkjkbfdocaaDoorShelf
import Derived.Test.YtogifkjkbfdocaaDoorLaid
import Derived.BigQuiet
import Derived.Test.YtogifkjkbfdocaaDoorWWords
import Derived.Test.YtogifkjkbfdocaaDoorWLast
import Derived.Test.YtogifkjkbfdocaaDoorWTab
import Derived.Test.YtogifkjkbfdocaaDoorWFour
import Derived.Test.YtogifkjkbfdocaaDoorWQPut
import Derived.Test.YtogifkjkbfdocaaDoorWApart
import Derived.Test.YtogifkjkbfdocaaDoorWArr
import Derived.Test.YtogifkjkbfdocaaDoorWZeros
import Derived.Test.YtogifkjkbfdocaaDoorWFoot
import Derived.Test.YtogifkjkbfdocaaDoorWKept
import Derived.Test.YtogifkjkbfdocaaDoorWShare
import Derived.Test.YtogifkjkbfdocaaDoorWN
import Derived.Test.YtogifkjkbfdocaaDoorWFootNe
import Derived.Test.YtogifkjkbfdocaaDoorWAt
import Derived.Test.YtogifkjkbfdocaaDoorWEqStruct
import Derived.Test.YtogifkjkbfdocaaDoorWRepsOne
import Derived.Test.YtogifkjkbfdocaaDoorWInv
import Derived.Test.YtogifkjkbfdocaaDoorWInvWords
import Derived.Test.YtogifkjkbfdocaaDoorWGuard
import Derived.Test.YtogifkjkbfdocaaDoorWNEv
import Derived.Test.YtogifkjkbfdocaaDoorWMore
namespace Go.Proofs.YtogifkjkbfdocaaDoor.QFnNumbers
open Go.RowKit Go.Proofs.YtogifkjkbfdocaaDoorW.PrintWords Go.Proofs.YtogifkjkbfdocaaDoorW.PrintLast Go.Proofs.YtogifkjkbfdocaaDoorW.PrintMore
attribute [local go_sem] max2_int min2_int max_two min_two max_three min_three max_four min_four   -- for this text's walks alone
set_option linter.unusedVariables false
set_option linter.unusedSimpArgs false



def errW : Option Int → Value
  | none => .nilIface
  | some c => .iface 113 (.int .i64 c)
theorem errW_none : errW none = .nilIface := rfl
theorem errW_some (c : Int) : errW (some c) = .iface 113 (.int .i64 c) := rfl

theorem info3 : (Tryd.prog.info? 3).map (fun i => (i.zero, i.size, i.bytes)) = some (some (.int .i64 0), 1, 8) := by kernel_rfl
theorem info5 : (Tryd.prog.info? 5).map (fun i => (i.zero, i.size, i.bytes)) = some (some (.int .u8 0), 1, 1) := by kernel_rfl
-- the values' own types

end Go.Proofs.YtogifkjkbfdocaaDoor.QFnNumbers
