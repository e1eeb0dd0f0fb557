/- Written by give.py, a program of this session: what the program's package-level variables hold, as a fact of a world that everything below the heap's old end keeps. No condition. -/
import Derived.Test.YtlpjpmfhkmddjaaDoorProg
import Derived.Test.YtlpjpmfhkmddjaaDoorVWords
import Derived.Below
import Derived.Lib.LaidTab
import Derived.LaidLaws
namespace Go.Proofs.YtlpjpmfhkmddjaaDoorH
open Go Go.RowKit
def GFMAX (w : World) : Prop := ∃ m, w.cell? ⟨0, 0, none⟩ = some (.int .i64 m)
theorem GFMAX.below {w w' : World} (h : GFMAX w) (hb : Below w.heap.size w w') : GFMAX w' := by obtain ⟨m, hm⟩ := h; exact ⟨m, (hb.cell (World.block_lt_of_cell? w _ hm)).trans hm⟩
end Go.Proofs.YtlpjpmfhkmddjaaDoorH
