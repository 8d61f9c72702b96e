/- internal/bytealg.MaxLen holds some int: of every world of the right shape; it stays so where a world only grew. -/
import Derived.Test.YtogifkjkbfdocaaDoorShelf
import Derived.Test.YtogifkjkbfdocaaDoorRows
import Derived.Below
namespace Go.Proofs.YtogifkjkbfdocaaDoor.Max
open Go.RowKit
def LaidW (W : World) : Prop := ∃ m, W.cell? ⟨2, 0, none⟩ = some (.int .i64 m)
theorem of_shaped {W : World} (h : W.ShapedOpen Tryd.prog) : LaidW W := Tryd.laysM146.s1_3 W h
theorem LaidW.later {w w' : World} (h : LaidW w) (hb : Below w.heap.size w w') : LaidW w' := by
  obtain ⟨m, hm⟩ := h
  exact ⟨m, (hb.cell (World.block_lt_of_cell? w _ hm)).trans hm⟩
end Go.Proofs.YtogifkjkbfdocaaDoor.Max
