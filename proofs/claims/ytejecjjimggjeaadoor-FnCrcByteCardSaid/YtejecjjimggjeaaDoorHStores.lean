/- Written by this session: a slice's value, held as a whole, is stored into a cell. No condition. -/
import Derived.Test.YtejecjjimggjeaaDoorWWords
namespace Go.Proofs.YtejecjjimggjeaaDoorH
open Go Go.RowKit Go.Proofs.YtejecjjimggjeaaDoorW.PrintWords
theorem store_sl {α : Type} {d : Kd α} {T B : Nat} {W0 : World} {ok : Nat → Prop} {l : List α} (p : Program) (v : Value) (h : Aside0 (Kd.R d T W0 B ok v l)) :
    ∀ (a : Addr) (W : World), (W.cell? a).isSome = true → W.frozen? a = false → Sem.run p (store a v) W = .ok () (W.setCell a v) := by
  intro a W h1 h2
  obtain ⟨A, c, e⟩ := Kd.R_slice h.out
  subst e
  obtain ⟨x, hx⟩ := Option.isSome_iff_exists.mp h1
  simp [store, Sem.run, hx, h2]
end Go.Proofs.YtejecjjimggjeaaDoorH
