/- Written by this session: the steps of a region that draws its order, each told in one line. No condition. -/
import Derived.Test.YtfiojiokmkiflaaDoorVWords
import Derived.Test.YtfiojiokmkiflaaDoorVLast
namespace Go.Proofs.YtfiojiokmkiflaaDoorH
open Go Go.RowKit Go.Proofs.YtfiojiokmkiflaaDoorW.PrintWords Go.Proofs.YtfiojiokmkiflaaDoorW.PrintLast
set_option linter.unusedVariables false
section
variable {P : Program} {ops : Array Oper} {Q : Exit → Act → World → Prop} {md : Region.Mode} {S : World → Prop} {ds : List Nat} {oi : Oper} {fuel : Nat} {l : Array Bool} {a : Act} {w : World}
theorem pu (i N : Nat) (hi : ops[i]? = some oi) (hN : oi.dst = some N) (hc : anyB md ops l (l.setIfInBounds i true) i = true) (hQ : ∀ v c a w, Q (.panic c) (a.put oi.dst v) w → Q (.panic c) a w) (hw : Region.wanted oi (yielded ops a.tmps) = true)
  (h : ∃ v a', (∀ w', (execOp a.eval oi).run P w' = .ok (.value v) w') ∧ a.put (some N) v = a' ∧ wpAnyLast P md ops Q S ds fuel (l.setIfInBounds i true) a' w) : wpAnyLast P md ops Q S ds (fuel + 1) l a w := by
 obtain ⟨v, a', h1, h2, h3⟩ := h
 exact pure_ _ hi hN hc (hQ v) (.inl ⟨hw, h1⟩) h2 h3
theorem po (i N : Nat) (hi : ops[i]? = some oi) (hN : oi.dst = some N) (hc : anyB md ops l (l.setIfInBounds i true) i = true) (hQ : ∀ v c a w, Q (.panic c) (a.put oi.dst v) w → Q (.panic c) a w) (hw : Region.wanted oi (yielded ops a.tmps) = false)
  (h : ∃ a', a.put (some N) undef = a' ∧ wpAnyLast P md ops Q S ds fuel (l.setIfInBounds i true) a' w) : wpAnyLast P md ops Q S ds (fuel + 1) l a w := by
 obtain ⟨a', h2, h3⟩ := h
 exact pure_ _ hi hN hc (hQ undef) (.inr ⟨hw, rfl⟩) h2 h3
theorem ta (i N : Nat) (hi : ops[i]? = some oi) (hN : oi.dst = some N) (hc : takeB md ops ds l (l.setIfInBounds i true) i = true) (hQ : ∀ v c a w, Q (.panic c) (a.put oi.dst v) w → Q (.panic c) a w) (hw : Region.wanted oi (yielded ops a.tmps) = true) (hS : S w)
  (h : ∃ v a', (∀ w', S w' → (execOp a.eval oi).run P w' = .ok (.value v) w') ∧ a.put (some N) v = a' ∧ wpAnyLast P md ops Q S ds fuel (l.setIfInBounds i true) a' w) : wpAnyLast P md ops Q S ds (fuel + 1) l a w := by
 obtain ⟨v, a', h1, h2, h3⟩ := h
 exact take_ _ hi hN hc (hQ v) (.inl ⟨hw, h1⟩) hS h2 h3
theorem pt (a : Act) (n : Nat) (v : Value) : a.put (some n) v = { a with tmps := a.tmps.setIfInBounds n v } := rfl
theorem ps {α : Type} (l : List α) (i : Nat) (x : α) : l.toArray.setIfInBounds i x = (l.set i x).toArray := List.setIfInBounds_toArray ..
theorem p0 {α : Type} {a b : α} {l : List α} : (a :: l).set 0 b = b :: l := rfl
theorem p1 {α : Type} {a b : α} {l : List α} {n : Nat} : (a :: l).set (n + 1) b = a :: l.set n b := rfl
theorem bfin {W : World} {g t : Nat} {cs cs' : Array Value} {z : Nat × Nat} (h : W.heap[g]? = some (.cells cs t z)) (e : cs = cs') : W.heap[g]? = some (.cells cs' t z) := e ▸ h
end
end Go.Proofs.YtfiojiokmkiflaaDoorH
