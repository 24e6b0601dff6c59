/- What is asked of the laid tables, and that it lasts while only new memory is made. -/
import Derived.Test.YtdlhdeejdefmaaaDoorHandD
import Derived.Lib.LaidTab
namespace Go.Proofs.YtdlhdeejdefmaaaDoor.Hand
open Go.RowKit
/-- what the program's laid tables hold, as far as the walks read them -/
structure Tabs (w : World) : Prop where
  sp : Spaces w
theorem lt_of_cell {w : World} {a : Addr} {v : Value} (h : w.cell? a = some v) : a.block < w.heap.size := by
  obtain ⟨o, ho, _⟩ := cells_of_cell h
  exact (Array.getElem?_eq_some_iff.1 ho).1
theorem Tabs.size {w : World} (h : Tabs w) : 0 < w.heap.size := lt_of_cell (h.sp.cell 0 (by omega))
theorem Tabs.below {w w' : World} (h : Tabs w) (hb : Below w.heap.size w w') : Tabs w' := ⟨h.sp.below hb h.size⟩
end Go.Proofs.YtdlhdeejdefmaaaDoor.Hand
