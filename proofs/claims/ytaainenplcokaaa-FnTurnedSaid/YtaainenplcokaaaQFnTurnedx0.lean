/- Written by the kit's print.py, called by our own print2.sh with one import more; not by print.sh. -/
import Derived.Test.YtaainenplcokaaaProg
import Derived.Below
import Derived.Deep.Draws
import Derived.Deep.AppendLies
import Derived.Maps.AppendAt
import Derived.OwnWalk
import Derived.Laws.BytesArg
import Derived.Laws.MakeOwn
import Derived.Laws.OwnMore
import Derived.Deep.OwnRows
import Derived.Tactics
import Derived.Lib.ConvBytes
import Derived.Laws.Slices
import Derived.WalkKit
import Derived.KernelRfl
import Derived.RowKit3
import Derived.Deep.LoopGhost
import Derived.Deep.QuietTactic
import Derived.BigQuiet
import Derived.WideLaws
import Derived.Deep.DeepCutAuto
import Derived.Deep.CutBlock
import Derived.Deep.RegionHeld3
import Derived.Laws.Rows
import Derived.Lib.AppendStr
import Derived.ArgAppend
import Derived.Laws.IdiomCopy
import Derived.OrdersHeld
import Derived.Laws.BitsLemmas
import Derived.RowKit
import Derived.WalkLawsBesides
import Derived.Test.YtaainenplcokaaaWWords
import Derived.Test.YtaainenplcokaaaWLast
import Derived.Test.YtaainenplcokaaaWTab
import Derived.Test.YtaainenplcokaaaWFour
import Derived.Test.YtaainenplcokaaaWQPut
import Derived.Test.YtaainenplcokaaaWApart
import Derived.Test.YtaainenplcokaaaWArr
import Derived.Test.YtaainenplcokaaaWZeros
import Derived.Test.YtaainenplcokaaaWFoot
import Derived.Test.YtaainenplcokaaaWKept
import Derived.Test.YtaainenplcokaaaWShare
import Derived.Test.YtaainenplcokaaaWN
import Derived.Test.YtaainenplcokaaaWFootNe
import Derived.Test.YtaainenplcokaaaWAt
import Derived.Test.YtaainenplcokaaaWEqStruct
import Derived.Test.YtaainenplcokaaaWRepsOne
import Derived.Test.YtaainenplcokaaaWInv
import Derived.Test.YtaainenplcokaaaWInvWords
import Derived.Test.YtaainenplcokaaaWGuard
import Derived.Test.YtaainenplcokaaaWNEv
import Derived.Test.YtaainenplcokaaaWMore
namespace Go.Proofs.Ytaainenplcokaaa.QFnTurned
open Go.RowKit Go.Proofs.YtaainenplcokaaaW.PrintWords Go.Proofs.YtaainenplcokaaaW.PrintLast Go.Proofs.YtaainenplcokaaaW.PrintMore
attribute [local go_sem] max2_int min2_int max_two min_two max_three min_three max_four min_four   -- for this text's walks alone
set_option linter.unusedVariables false
set_option linter.unusedSimpArgs false



def errW : Option Int → Value
  | none => .nilIface
  | some c => .iface 0 (.int .i64 c)
theorem errW_none : errW none = .nilIface := rfl
theorem errW_some (c : Int) : errW (some c) = .iface 0 (.int .i64 c) := rfl

theorem info3 : (Try.prog.info? 3).map (fun i => (i.zero, i.size, i.bytes)) = some (some (.int .i64 0), 1, 8) := by kernel_rfl
theorem info5 : (Try.prog.info? 5).map (fun i => (i.zero, i.size, i.bytes)) = some (some (.int .u8 0), 1, 1) := by kernel_rfl
-- the values' own types

end Go.Proofs.Ytaainenplcokaaa.QFnTurned
