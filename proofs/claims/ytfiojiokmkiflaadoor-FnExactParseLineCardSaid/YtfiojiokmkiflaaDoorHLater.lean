/- Written by this session: a world later than another by allocations and draws alone; what is told of rows and blocks is told there too. No condition. -/
import Derived.Test.YtfiojiokmkiflaaDoorVKept
import Derived.Test.YtfiojiokmkiflaaDoorVQPut
namespace Go.Proofs.YtfiojiokmkiflaaDoorW.PrintWords
open Go.RowKit
/-- A world later than another by allocations and draws alone. -/
class Ltr (a b : World) : Prop where
 h : Below a.heap.size a b
instance ltr_refl (a : World) : Ltr a a := ⟨Below.refl _ _⟩
instance ltr_alloc (a b : World) [i : Ltr a b] (o : Obj) : Ltr a (b.alloc o) := ⟨zh i.h o⟩
instance ltr_drewN (a b : World) [i : Ltr a b] (m : Nat) : Ltr a (b.drewN m) := ⟨zd i.h m⟩
instance ltr_drew (a b : World) [i : Ltr a b] : Ltr a b.drew := ⟨zi i.h⟩
section
variable {α : Type} {d : Kd α} {e base : Nat} {ok : Nat → Prop} {v : Value} {xs : List α} {a b : World}
theorem RL [i : Ltr a b] (h : d.R e a base ok v xs) : d.R e b base ok v xs := Kd.R_kept h (Kept.of_below i.h (fun _ => False)) (fun _ _ k => k)
theorem BL [i : Ltr a b] {g : Nat} {o : Obj} (h : a.heap[g]? = some o) : b.heap[g]? = some o := (i.h.block g (zB h)).trans h
theorem kt {w : World} {S : Nat → Prop} [i : Ltr a b] (h : Kept w a S) : Kept w b S := h.below i.h
theorem bl {w : World} [i : Ltr a b] (h : Below w.heap.size w a) : Below w.heap.size w b := zm h i.h
end
end Go.Proofs.YtfiojiokmkiflaaDoorW.PrintWords
