/-
  The fact on the world that the walks of this seat carry: the cell of strconv.ErrRange holds an interface value. With it: what it is kept by.
-/
import Derived.Below
namespace Go.Proofs.YtflmpgepboldfaaDoor
open Go.RowKit
/-- The package-level variable strconv.ErrRange holds an interface value. -/
def GV (w : World) : Prop := ∃ te pe, w.cell? ⟨2, 0, none⟩ = some (.iface te pe)
theorem GV.below {w w' : World} (h : GV w) (hb : Below w.heap.size w w') : GV w' := by
  obtain ⟨te, pe, hc⟩ := h
  exact ⟨te, pe, (hb.cell (World.block_lt_of_cell? _ _ hc)).trans hc⟩
end Go.Proofs.YtflmpgepboldfaaDoor
