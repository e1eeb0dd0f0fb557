/- Written by this session: arrays of one-cell elements: a new one, a whole one stored, read, sliced, made out of a slice. No condition. -/
import Derived.Test.YtejecjjimggjeaaDoorVWords
import Derived.Test.YtejecjjimggjeaaDoorVKept
import Derived.Test.YtejecjjimggjeaaDoorVApart
import Derived.Deep.MidRow
import Derived.Deep.WholeRow
import Derived.Laws.Tables
namespace Go.Proofs.YtejecjjimggjeaaDoorH
open Go Go.RowKit Go.Proofs.YtejecjjimggjeaaDoorW.PrintWords
set_option linter.unusedVariables false
set_option linter.unusedSimpArgs false
section
variable {P : Program} {ops : Array Oper} {rest : List Oper} {o : Oper} {a : Act} {Q : Exit → Act → World → Prop} {W : World}
end
/-- The slice of a whole array that one owns. -/
theorem R_of_arr {α : Type} (enc : α → Value) (h1 : ∀ x : α, (enc x).oneCell' = true) {W : World} {g T base : Nat} {ok : Nat → Prop} {xs : List α} (hg : W.heap[g]? = some (.cells (xs.map enc).toArray T (0, 0))) (hb : base ≤ g) (hok : ok g) (hp : 0 < xs.length) (hm : xs.length ≤ 281474976710656) :
  (Kd.scalar enc h1).R T W base ok (.slice (some ⟨g, 0, none⟩) xs.length xs.length) xs := by
 refine ⟨fun k hk => ?_, xs.map enc, ⟨by simp [Kd.scalar], .inr ⟨g, xs.length, _, rfl, hb, hg, Nat.le_refl _, ?_, by simp [Kd.scalar], ?_⟩⟩, by simp [Kd.scalar], ?_⟩
 ·simp [Value.ownBlock] at hk; exact hk ▸ hok
 ·unfold maxLen; omega
 ·simp [Kd.scalar, List.take_of_length_le]
 ·intro j p hj
  show _ = [enc p]
  have hjl := (List.getElem?_eq_some_iff.1 hj).1
  simp only [Kd.scalar, Nat.mul_one]
  rw [List.drop_eq_getElem_cons (by simpa using hjl)]
  have := (List.getElem?_eq_some_iff.1 hj).2
  simp [this]
end Go.Proofs.YtejecjjimggjeaaDoorH
