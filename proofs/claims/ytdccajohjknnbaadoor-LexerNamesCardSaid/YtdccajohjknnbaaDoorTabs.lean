/- What is asked of the laid tables, and that it lasts while only new memory is made. -/
import Derived.Test.YtdccajohjknnbaaDoorHandD
import Derived.Lib.LaidTab
import Derived.Lib.ItoaNum
namespace Go.Proofs.YtdccajohjknnbaaDoor.Hand
open Go.RowKit
/-- what the program's laid tables hold, as far as the walks read them -/
structure Tabs (w : World) : Prop where
  sp : Spaces w
  pow : Lib.TabIs Tryd.prog w "internal/strconv.uint64pow10" .u64 Lib.pow10Tab
  rng : ∃ tp p, w.var? Tryd.prog "strconv.ErrRange" = some #[.iface tp p]
theorem lt_of_cell {w : World} {a : Addr} {v : Value} (h : w.cell? a = some v) : a.block < w.heap.size := by
  obtain ⟨o, ho, _⟩ := cells_of_cell h
  exact (Array.getElem?_eq_some_iff.1 ho).1
theorem Tabs.size {w : World} (h : Tabs w) : 0 < w.heap.size := lt_of_cell (h.sp.cell 0 (by omega))
theorem var?_below {P : Program} {w w' : World} {n : String} {cs : Array Value} (h : w.var? P n = some cs) (hb : Below w.heap.size w w') : w'.var? P n = some cs := by
  unfold World.var? at h ⊢
  cases hg : P.globalNamed n with
  | none => rw [hg] at h; simp at h
  | some g =>
    rw [hg] at h
    simp only [Option.bind_some] at h ⊢
    have hlt : g < w.heap.size := by
      cases hw : w.heap[g]? with
      | none => rw [hw] at h; simp at h
      | some o => exact (Array.getElem?_eq_some_iff.1 hw).1
    rw [hb.block g hlt]; exact h
theorem Tabs.below {w w' : World} (h : Tabs w) (hb : Below w.heap.size w w') : Tabs w' where
  sp := h.sp.below hb h.size
  pow := var?_below h.pow hb
  rng := h.rng.elim fun tp h => h.elim fun p h => ⟨tp, p, var?_below h hb⟩
end Go.Proofs.YtdccajohjknnbaaDoor.Hand
