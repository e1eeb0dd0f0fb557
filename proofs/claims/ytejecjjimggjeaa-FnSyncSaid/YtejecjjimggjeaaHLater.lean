/- Written by this session: a world later than another by allocations and draws alone; what is told of rows and blocks is told there too. No condition. -/
import Derived.Test.YtejecjjimggjeaaVKept
import Derived.Test.YtejecjjimggjeaaVQPut
namespace Go.Proofs.YtejecjjimggjeaaW.PrintWords
open Go.RowKit
/-- A world later than another by allocations and draws alone. -/
class Ltr (a b : World) : Prop where
 h : Below a.heap.size a b
instance ltr_refl (a : World) : Ltr a a := ⟨Below.refl _ _⟩
instance ltr_alloc (a b : World) [i : Ltr a b] (o : Obj) : Ltr a (b.alloc o) := ⟨zf i.h o⟩
instance ltr_drewN (a b : World) [i : Ltr a b] (m : Nat) : Ltr a (b.drewN m) := ⟨ze i.h m⟩
instance ltr_drew (a b : World) [i : Ltr a b] : Ltr a b.drew := ⟨zi i.h⟩
section
variable {α : Type} {d : Kd α} {e base : Nat} {ok : Nat → Prop} {v : Value} {xs : List α} {a b : World}
theorem RL [i : Ltr a b] (h : d.R e a base ok v xs) : d.R e b base ok v xs := Kd.R_kept h (Kept.of_below i.h (fun _ => False)) (fun _ _ k => k)
theorem QL [i : Ltr a b] (h : d.Q e a base ok v xs) : d.Q e b base ok v xs := Kd.Q_kept h (Kept.of_below i.h (fun _ => False)) (fun _ _ k => k)
theorem SL [i : Ltr a b] (h : Kd.S d e a base ok v xs) : Kd.S d e b base ok v xs := Kd.S_kept h (Kept.of_below i.h (fun _ => False)) (fun _ _ k => k)
theorem BL [i : Ltr a b] {g : Nat} {o : Obj} (h : a.heap[g]? = some o) : b.heap[g]? = some o := (i.h.block g (zr h)).trans h
theorem kx {w : World} {g : Nat} [i : Ltr a b] (h : KeepBut w a g none) : KeepBut w b g none := h.trans (KeepBut.of_below i.h g none) (.inl rfl)
theorem bl {w : World} [i : Ltr a b] (h : Below w.heap.size w a) : Below w.heap.size w b := zk h i.h
end
end Go.Proofs.YtejecjjimggjeaaW.PrintWords
