/- Written by the kit's print.py, called by our own print2.sh with one import more; not by print.sh. -/
import Derived.Test.YtmbceckgdhobjaaProg
import Derived.Below
import Derived.Deep.Draws
import Derived.Deep.AppendLies
import Derived.Maps.AppendAt
import Derived.OwnWalk
import Derived.Laws.BytesArg
import Derived.Laws.MakeOwn
import Derived.Laws.OwnMore
import Derived.Deep.OwnRows
import Derived.Tactics
import Derived.Lib.ConvBytes
import Derived.Laws.Slices
import Derived.WalkKit
import Derived.KernelRfl
import Derived.RowKit3
import Derived.Deep.LoopGhost
import Derived.Deep.QuietTactic
import Derived.BigQuiet
import Derived.WideLaws
import Derived.Deep.DeepCutAuto
import Derived.Deep.CutBlock
import Derived.Deep.RegionHeld3
import Derived.Laws.Rows
import Derived.Lib.AppendStr
import Derived.ArgAppend
import Derived.Laws.IdiomCopy
import Derived.OrdersHeld
import Derived.Laws.BitsLemmas
import Derived.RowKit
import Derived.WalkLawsBesides
import Derived.Test.YtmbceckgdhobjaaWWords
import Derived.Test.YtmbceckgdhobjaaWLast
import Derived.Test.YtmbceckgdhobjaaWTab
import Derived.Test.YtmbceckgdhobjaaWFour
import Derived.Test.YtmbceckgdhobjaaWQPut
import Derived.Test.YtmbceckgdhobjaaWApart
import Derived.Test.YtmbceckgdhobjaaWArr
import Derived.Test.YtmbceckgdhobjaaWZeros
import Derived.Test.YtmbceckgdhobjaaWFoot
import Derived.Test.YtmbceckgdhobjaaWKept
import Derived.Test.YtmbceckgdhobjaaWShare
import Derived.Test.YtmbceckgdhobjaaWN
import Derived.Test.YtmbceckgdhobjaaWFootNe
import Derived.Test.YtmbceckgdhobjaaWAt
import Derived.Test.YtmbceckgdhobjaaWEqStruct
import Derived.Test.YtmbceckgdhobjaaWRepsOne
import Derived.Test.YtmbceckgdhobjaaWInv
import Derived.Test.YtmbceckgdhobjaaWInvWords
import Derived.Test.YtmbceckgdhobjaaWGuard
import Derived.Test.YtmbceckgdhobjaaWNEv
import Derived.Test.YtmbceckgdhobjaaWMore
namespace Go.Proofs.Ytmbceckgdhobjaa.QFnExactSnapText
open Go.RowKit Go.Proofs.YtmbceckgdhobjaaW.PrintWords Go.Proofs.YtmbceckgdhobjaaW.PrintLast Go.Proofs.YtmbceckgdhobjaaW.PrintMore
attribute [local go_sem] max2_int min2_int max_two min_two max_three min_three max_four min_four   -- for this text's walks alone
set_option linter.unusedVariables false
set_option linter.unusedSimpArgs false



def errW : Option Int → Value
  | none => .nilIface
  | some c => .iface 0 (.int .i64 c)
theorem errW_none : errW none = .nilIface := rfl
theorem errW_some (c : Int) : errW (some c) = .iface 0 (.int .i64 c) := rfl

theorem info3 : (Try.prog.info? 3).map (fun i => (i.zero, i.size, i.bytes)) = some (some (.int .i64 0), 1, 8) := by kernel_rfl
theorem info5 : (Try.prog.info? 5).map (fun i => (i.zero, i.size, i.bytes)) = some (some (.int .u8 0), 1, 1) := by kernel_rfl
theorem info9 : (Try.prog.info? 9).map (fun i => (i.zero, i.size, i.bytes)) = some (some (.string ⟨#[]⟩), 1, 16) := by kernel_rfl
-- the values' own types

end Go.Proofs.Ytmbceckgdhobjaa.QFnExactSnapText
