/- Written by this session: arrays of one-cell elements: a new one, a whole one stored, read, sliced, made out of a slice. No condition. -/
import Derived.Test.YtfiojiokmkiflaaDoorVWords
import Derived.Test.YtfiojiokmkiflaaDoorVKept
import Derived.Test.YtfiojiokmkiflaaDoorVApart
import Derived.Deep.MidRow
import Derived.Deep.WholeRow
import Derived.Laws.Tables
namespace Go.Proofs.YtfiojiokmkiflaaDoorH
open Go Go.RowKit Go.Proofs.YtfiojiokmkiflaaDoorW.PrintWords
set_option linter.unusedVariables false
set_option linter.unusedSimpArgs false
section
variable {P : Program} {ops : Array Oper} {rest : List Oper} {o : Oper} {a : Act} {Q : Exit → Act → World → Prop} {W : World}
/-- A new array. -/
theorem alloc_arr (hgd : o.guard = none) {t : TypeId} (ho : o.op = .alloc t) {N : Tmp} (_hd : o.dst = some N) {zs : Array Value} {n : Nat}
  (hinfo : (P.info? t).map (fun i => (i.zero, i.size)) = some (some (.agg zs), n))
  (h : ∀ g, g = W.heap.size → ∀ w1, w1.heap[g]? = some (.cells zs t (0, 0)) → Below W.heap.size W w1 → (∀ i, i < W.heap.size → w1.heap[i]? = W.heap[i]?) → wpList P ops Q rest (a.put o.dst (.pointer (some ⟨g, 0, none⟩))) w1) : wpList P ops Q (o :: rest) a W := by
 refine Kd.event_run hgd (v := .pointer (some ⟨W.heap.size, 0, none⟩)) (w1 := W.alloc (.cells zs t (0, 0))) ?_ (h _ rfl _ (blk_new W _) (zh (Below.refl _ _) _) (fun i hi => Below.heap_alloc W _ i hi))
 have hz := (zero_of_info (P := P) hinfo).1
 unfold execOp
 simp only [ho, Instr.alloc, Sem.run_bind, hz, Result.andThen_ok]
 simp [newVar, newRow, Value.cells, World.alloc_eq]
/-- A whole array into a block of its own. -/
theorem store_arr (hgd : o.guard = none) {t : TypeId} {x y : Operand} (ho : o.op = .store t x y) (hN : o.dst = none) {g T : Nat} {old cells : Array Value}
  (hx : a.eval x = .pointer (some ⟨g, 0, none⟩)) (hy : a.eval y = .agg cells) (hg : W.heap[g]? = some (.cells old T (0, 0)))
  (hi : (P.info? t).map (·.size) = some cells.size) (hs : old.size = cells.size) (h1 : cells.all (·.oneCell') = true)
  (h : ∀ w1, w1.heap[g]? = some (.cells cells T (0, 0)) → W.grownBy w1 (some g) → wpList P ops Q rest a w1) : wpList P ops Q (o :: rest) a W := by
 have hgl : g < W.heap.size := zB hg
 have hrun : (execOp a.eval o).run P W = .ok .skip (W.setRow g cells) := by
  unfold execOp
  simp only [ho, hx, hy, Instr.storeAt, Instr.sureAddr, Sem.run_bind, Sem.run_pure, Result.andThen_ok, run_storeVar_row W g T t old cells hg hi hs h1]
 have hh : (W.setRow g cells).heap[g]? = some (.cells cells T (0, 0)) := by
  simp [World.setRow, Array.getElem?_modify, hg]
 refine wpList_plain hgd fun K hK => ?_
 unfold Oper.wp
 rw [hrun]
 show K (a.put o.dst undef) _
 rw [hN]
 refine hK _ _ (h _ hh ?_)
 refine ⟨rfl, rfl, rfl, ?_, ?_⟩
 ·simp [World.setRow]
 ·intro i hi hne
  simp only [World.setRow, Array.getElem?_modify]
  rw [if_neg (by intro e; exact hne (by rw [e]))]
end
/-- The slice of a whole array that one owns. -/
theorem R_of_arr {α : Type} (enc : α → Value) (h1 : ∀ x : α, (enc x).oneCell' = true) {W : World} {g T base : Nat} {ok : Nat → Prop} {xs : List α} (hg : W.heap[g]? = some (.cells (xs.map enc).toArray T (0, 0))) (hb : base ≤ g) (hok : ok g) (hp : 0 < xs.length) (hm : xs.length ≤ 281474976710656) :
  (Kd.scalar enc h1).R T W base ok (.slice (some ⟨g, 0, none⟩) xs.length xs.length) xs := by
 refine ⟨fun k hk => ?_, xs.map enc, ⟨by simp [Kd.scalar], .inr ⟨g, xs.length, _, rfl, hb, hg, Nat.le_refl _, ?_, by simp [Kd.scalar], ?_⟩⟩, by simp [Kd.scalar], ?_⟩
 ·simp [Value.ownBlock] at hk; exact hk ▸ hok
 ·unfold maxLen; omega
 ·simp [Kd.scalar, List.take_of_length_le]
 ·intro j p hj
  show _ = [enc p]
  have hjl := (List.getElem?_eq_some_iff.1 hj).1
  simp only [Kd.scalar, Nat.mul_one]
  rw [List.drop_eq_getElem_cons (by simpa using hjl)]
  have := (List.getElem?_eq_some_iff.1 hj).2
  simp [this]
end Go.Proofs.YtfiojiokmkiflaaDoorH
