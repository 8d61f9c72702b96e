-- PRINTED BY print.sh 35421559b90ae4d0a3588c463048766b98c2df88dd9212a6774a882060cdf62d: not written by this session
import Derived.Test.YtmbceckgdhobjaaDoorProg
import Derived.Below
import Derived.Deep.Draws
import Derived.Deep.AppendLies
import Derived.Maps.AppendAt
import Derived.OwnWalk
import Derived.Laws.BytesArg
import Derived.Laws.MakeOwn
import Derived.Laws.OwnMore
import Derived.Deep.OwnRows
import Derived.Tactics
import Derived.Lib.ConvBytes
import Derived.Laws.Slices
import Derived.WalkKit
import Derived.KernelRfl
import Derived.RowKit3
import Derived.Deep.LoopGhost
import Derived.Deep.QuietTactic
import Derived.BigQuiet
import Derived.WideLaws
import Derived.Deep.DeepCutAuto
import Derived.Deep.CutBlock
import Derived.Deep.RegionHeld3
import Derived.Laws.Rows
import Derived.Lib.AppendStr
import Derived.ArgAppend
import Derived.Laws.IdiomCopy
import Derived.OrdersHeld
import Derived.Laws.BitsLemmas
import Derived.RowKit
import Derived.Test.YtmbceckgdhobjaaDoorWWords
import Derived.Test.YtmbceckgdhobjaaDoorWLast
import Derived.Test.YtmbceckgdhobjaaDoorWTab
import Derived.Test.YtmbceckgdhobjaaDoorWFour
import Derived.Test.YtmbceckgdhobjaaDoorWQPut
import Derived.Test.YtmbceckgdhobjaaDoorWApart
import Derived.Test.YtmbceckgdhobjaaDoorWArr
import Derived.Test.YtmbceckgdhobjaaDoorWZeros
import Derived.Test.YtmbceckgdhobjaaDoorWFoot
import Derived.Test.YtmbceckgdhobjaaDoorWKept
import Derived.Test.YtmbceckgdhobjaaDoorWShare
import Derived.Test.YtmbceckgdhobjaaDoorWN
import Derived.Test.YtmbceckgdhobjaaDoorWFootNe
import Derived.Test.YtmbceckgdhobjaaDoorWAt
import Derived.Test.YtmbceckgdhobjaaDoorWEqStruct
import Derived.Test.YtmbceckgdhobjaaDoorWRepsOne
import Derived.Test.YtmbceckgdhobjaaDoorWInv
import Derived.Test.YtmbceckgdhobjaaDoorWInvWords
import Derived.Test.YtmbceckgdhobjaaDoorWGuard
import Derived.Test.YtmbceckgdhobjaaDoorWNEv
import Derived.Test.YtmbceckgdhobjaaDoorWMore
namespace Go.Proofs.YtmbceckgdhobjaaDoor.PSnapName
open Go.RowKit Go.Proofs.YtmbceckgdhobjaaDoorW.PrintWords Go.Proofs.YtmbceckgdhobjaaDoorW.PrintLast Go.Proofs.YtmbceckgdhobjaaDoorW.PrintMore
attribute [local go_sem] max2_int min2_int max_two min_two max_three min_three max_four min_four   -- for this text's walks alone
set_option linter.unusedVariables false
set_option linter.unusedSimpArgs false



def errW : Option Int → Value
  | none => .nilIface
  | some c => .iface 0 (.int .i64 c)
theorem errW_none : errW none = .nilIface := rfl
theorem errW_some (c : Int) : errW (some c) = .iface 0 (.int .i64 c) := rfl

theorem info5 : (Tryd.prog.info? 5).map (fun i => (i.zero, i.size, i.bytes)) = some (some (.int .u8 0), 1, 1) := by kernel_rfl
-- the values' own types

end Go.Proofs.YtmbceckgdhobjaaDoor.PSnapName
