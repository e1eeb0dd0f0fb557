/- Written by this session: the readings of the named variables are as many as the names; the cells that a listed datum of numbers, flags and rows of them spells. No condition. -/
import Derived.OpenVars
import Derived.ChangeShapes
namespace Go.Proofs.YtfiojiokmkiflaaDoorH
open Go Go.RowKit
theorem trodVars_len {H : Type} {enc : TypeId × Value → H} {P : Program} {w : World} {sp : Nat → Bool} : ∀ {ns : List String} {gs : List (DataW H)} {ps : List MemPlace}, DataW.TrodVars enc P w sp ns gs ps → gs.length = ns.length
 | [], [], _, _ => rfl
 | [], _ :: _, _, h => h.elim
 | _ :: _, [], _, h => h.elim
 | n :: ns, d :: ds, ps, h => by
  obtain ⟨g, t, cs, fuel, p, q, h1, h2, h3, h4, hs, e⟩ := h
  have := trodVars_len hs
  simp [this]
mutual
def flatD : DataW Unit → List Value
 | .lit (.int k n) => [.int k n]
 | .lit (.bool b) => [.bool b]
 | .lit (.string bs) => [.string ⟨bs.toArray⟩]
 | .agg ps => flatDs ps
 | _ => []
def flatDs : List (DataW Unit) → List Value
 | [] => []
 | d :: r => flatD d ++ flatDs r
end
end Go.Proofs.YtfiojiokmkiflaaDoorH
