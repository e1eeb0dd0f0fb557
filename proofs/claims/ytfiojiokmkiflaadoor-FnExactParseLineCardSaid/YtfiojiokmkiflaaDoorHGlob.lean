/- Written by give.py, a program of this session: what the program's package-level variables hold, as a fact of a world that everything below the heap's old end keeps. No condition. -/
import Derived.Test.YtfiojiokmkiflaaDoorProg
import Derived.Test.YtfiojiokmkiflaaDoorVWords
import Derived.Below
import Derived.Lib.LaidTab
import Derived.LaidLaws
namespace Go.Proofs.YtfiojiokmkiflaaDoorH
open Go Go.RowKit
def tabNIB : List Int := [0, 274646895, 549293790, 820201905, 1098587580, 1361435347, 1640403810, 1905808397, 2197175160, 2460548119, 2722870694, 2987750089, 3280807620, 3553878443, 3811616794, 4084100981]
def GFNIB (w : World) : Prop := ∀ i, i < tabNIB.length → w.cell? ⟨0, i, none⟩ = some (.int .u32 (tabNIB.getD i 0))
theorem GFNIB.below {w w' : World} (h : GFNIB w) (hb : Below w.heap.size w w') : GFNIB w' := fun i hi => (hb.cell (World.block_lt_of_cell? w _ (h i hi))).trans (h i hi)
def GFMAX (w : World) : Prop := ∃ m, w.cell? ⟨1, 0, none⟩ = some (.int .i64 m)
theorem GFMAX.below {w w' : World} (h : GFMAX w) (hb : Below w.heap.size w w') : GFMAX w' := by obtain ⟨m, hm⟩ := h; exact ⟨m, (hb.cell (World.block_lt_of_cell? w _ hm)).trans hm⟩
end Go.Proofs.YtfiojiokmkiflaaDoorH
