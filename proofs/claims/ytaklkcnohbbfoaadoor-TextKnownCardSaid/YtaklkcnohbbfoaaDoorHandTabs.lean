/-
  What the library reads of package-level variables: two tables of utf8, a limit, an error. No walk.
-/
import Derived.Test.YtaklkcnohbbfoaaDoorHandConv
import Derived.Shelf.Unicode.DecodeSlow
namespace Go.Proofs.YtaklkcnohbbfoaaDoor.Hand
open Go.RowKit Go.Lib
structure Tabs (w : World) : Prop where
  utf : Lib.Utf8Tabs 0 1 w
  lim : ∃ m : Int, w.cell? ⟨2, 0, none⟩ = some (.int .i64 m)
  err : ∃ tp p, w.cell? ⟨3, 0, none⟩ = some (.iface tp p)
theorem cell_lt {w : World} {a : Addr} {v : Value} (hc : w.cell? a = some v) : a.block < w.heap.size := by
  rcases Nat.lt_or_ge a.block w.heap.size with h' | h'
  · exact h'
  · simp [World.cell?, Array.getElem?_eq_none h'] at hc
theorem Tabs.below {w w' : World} (h : Tabs w) (hb : Below w.heap.size w w') : Tabs w' := by
  obtain ⟨m, hm⟩ := h.lim
  obtain ⟨tp, p, hp⟩ := h.err
  exact ⟨Utf8Tabs_below h.utf hb, ⟨m, (hb.cell (cell_lt hm)).trans hm⟩, ⟨tp, p, (hb.cell (cell_lt hp)).trans hp⟩⟩
end Go.Proofs.YtaklkcnohbbfoaaDoor.Hand
