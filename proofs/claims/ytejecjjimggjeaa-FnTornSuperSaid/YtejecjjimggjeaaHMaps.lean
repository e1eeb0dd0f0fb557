/- Written by this session: a map in memory as a list of its entries in the order of first use: what a look-up, a store, a delete and len do to it. Keys: whole numbers or strings. No condition. -/
import Derived.Test.YtejecjjimggjeaaVWords
import Derived.Test.YtejecjjimggjeaaVKept
import Derived.MapKept
import Derived.ChangeMaps5
import Derived.Carry
namespace Go.Proofs.YtejecjjimggjeaaH
open Go Go.RowKit Go.Proofs.YtejecjjimggjeaaW.PrintWords Go.ChangeMaps
set_option linter.unusedVariables false
set_option linter.unusedSimpArgs false
set_option linter.unusedSectionVars false
section
variable {κ α : Type} [DecidableEq κ] {ke : κ → Value} {ve : α → Value} {P : Program} {w W : World} {b : Nat} {m : List (κ × α)} {K E T : TypeId} {d : TypeDesc}
def MapIs (ke : κ → Value) (ve : α → Value) (w : World) (b : Nat) (m : List (κ × α)) : Prop :=
 ∃ es clock, w.heap[b]? = some (.map es clock) ∧ es.toList.map (fun e => (e.key, e.val)) = m.map (fun p => (ke p.1, ve p.2))
theorem MapIs.move (h : MapIs ke ve w b m) (hm : W.heap[b]? = w.heap[b]?) : MapIs ke ve W b m := by obtain ⟨es, c, h1, h2⟩ := h; exact ⟨es, c, hm.trans h1, h2⟩
theorem MapIs.lt (h : MapIs ke ve w b m) : b < w.heap.size := by obtain ⟨es, c, h1, h2⟩ := h; exact (Array.getElem?_eq_some_iff.1 h1).1
theorem MapIs.made (w : World) : MapIs ke ve (w.alloc (.map #[] 0)) w.heap.size [] := ⟨#[], 0, (MapKept.heap_alloc w _).1, rfl⟩
end
end Go.Proofs.YtejecjjimggjeaaH
