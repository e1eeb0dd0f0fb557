/- Written by this session: arrays of one-cell elements: a new one, a whole one stored, read, sliced, made out of a slice. No condition. -/
import Derived.Test.YtejecjjimggjeaaVWords
import Derived.Test.YtejecjjimggjeaaVKept
import Derived.Test.YtejecjjimggjeaaVApart
import Derived.Deep.MidRow
import Derived.Deep.WholeRow
import Derived.Laws.Tables
namespace Go.Proofs.YtejecjjimggjeaaH
open Go Go.RowKit Go.Proofs.YtejecjjimggjeaaW.PrintWords
set_option linter.unusedVariables false
set_option linter.unusedSimpArgs false
section
variable {P : Program} {ops : Array Oper} {rest : List Oper} {o : Oper} {a : Act} {Q : Exit → Act → World → Prop} {W : World}
/-- A new array. -/
theorem alloc_arr (hgd : o.guard = none) {t : TypeId} (ho : o.op = .alloc t) {N : Tmp} (_hd : o.dst = some N) {zs : Array Value} {n : Nat}
  (hinfo : (P.info? t).map (fun i => (i.zero, i.size)) = some (some (.agg zs), n))
  (h : ∀ g, g = W.heap.size → ∀ w1, w1.heap[g]? = some (.cells zs t (0, 0)) → Below W.heap.size W w1 → (∀ i, i < W.heap.size → w1.heap[i]? = W.heap[i]?) → wpList P ops Q rest (a.put o.dst (.pointer (some ⟨g, 0, none⟩))) w1) : wpList P ops Q (o :: rest) a W := by
 refine Kd.event_run hgd (v := .pointer (some ⟨W.heap.size, 0, none⟩)) (w1 := W.alloc (.cells zs t (0, 0))) ?_ (h _ rfl _ (blk_new W _) (zf (Below.refl _ _) _) (fun i hi => Below.heap_alloc W _ i hi))
 have hz := (zero_of_info (P := P) hinfo).1
 unfold execOp
 simp only [ho, Instr.alloc, Sem.run_bind, hz, Result.andThen_ok]
 simp [newVar, newRow, Value.cells, World.alloc_eq]
/-- An array handed over by value, boxed. -/
theorem box_arr (hgd : o.guard = none) {t : TypeId} {x : Operand} (ho : o.op = .box t x) {N : Tmp} (_hd : o.dst = some N) {cs : Array Value} (hx : a.eval x = .agg cs)
  (h : ∀ g, g = W.heap.size → ∀ w1, w1.heap[g]? = some (.cells cs t (0, 0)) → Below W.heap.size W w1 → wpList P ops Q rest (a.put o.dst (.pointer (some ⟨g, 0, none⟩))) w1) : wpList P ops Q (o :: rest) a W := by
 refine Kd.event_run hgd (v := .pointer (some ⟨W.heap.size, 0, none⟩)) (w1 := W.alloc (.cells cs t (0, 0))) ?_ (h _ rfl _ (blk_new W _) (zf (Below.refl _ _) _))
 unfold execOp
 simp only [ho, hx, Instr.box]
 simp [newVar, newRow, Value.cells, World.alloc_eq]
/-- A whole array into a block of its own. -/
theorem store_arr (hgd : o.guard = none) {t : TypeId} {x y : Operand} (ho : o.op = .store t x y) (hN : o.dst = none) {g T : Nat} {old cells : Array Value}
  (hx : a.eval x = .pointer (some ⟨g, 0, none⟩)) (hy : a.eval y = .agg cells) (hg : W.heap[g]? = some (.cells old T (0, 0)))
  (hi : (P.info? t).map (·.size) = some cells.size) (hs : old.size = cells.size) (h1 : cells.all (·.oneCell') = true)
  (h : ∀ w1, w1.heap[g]? = some (.cells cells T (0, 0)) → W.grownBy w1 (some g) → wpList P ops Q rest a w1) : wpList P ops Q (o :: rest) a W := by
 have hgl : g < W.heap.size := zr hg
 have hrun : (execOp a.eval o).run P W = .ok .skip (W.setRow g cells) := by
  unfold execOp
  simp only [ho, hx, hy, Instr.storeAt, Instr.sureAddr, Sem.run_bind, Sem.run_pure, Result.andThen_ok, run_storeVar_row W g T t old cells hg hi hs h1]
 have hh : (W.setRow g cells).heap[g]? = some (.cells cells T (0, 0)) := by
  simp [World.setRow, Array.getElem?_modify, hg]
 refine wpList_plain hgd fun K hK => ?_
 unfold Oper.wp
 rw [hrun]
 show K (a.put o.dst undef) _
 rw [hN]
 refine hK _ _ (h _ hh ?_)
 refine ⟨rfl, rfl, rfl, ?_, ?_⟩
 ·simp [World.setRow]
 ·intro i hi hne
  simp only [World.setRow, Array.getElem?_modify]
  rw [if_neg (by intro e; exact hne (by rw [e]))]
/-- 'x[:]' of an array. -/
theorem slice_arr (hgd : o.guard = none) {t e : TypeId} {n : Nat} {x : Operand} (ho : o.op = .slice t x none none none) {N : Tmp} (_hd : o.dst = some N) {g : Nat}
  (hx : a.eval x = .pointer (some ⟨g, 0, none⟩)) (hu : P.underlying t = some (.array n e)) (hi : (P.info? e).map (·.size) = some 1)
  (h : wpList P ops Q rest (a.put o.dst (.slice (some ⟨g, 0, none⟩) n n)) W) : wpList P ops Q (o :: rest) a W := by
 refine Kd.event_run hgd (v := .slice (some ⟨g, 0, none⟩) n n) (w1 := W) ?_ h
 cases hq : P.info? e with
 | none => simp [hq] at hi
 | some i =>
  unfold execOp
  simp [ho, hx, Instr.sliceAt, Instr.sureAddr, run_underlying hu, Instr.sliceBounds, sizeOf, typeInfo, hq, Addr.add]
/-- '[n]T(xs)': where the slice is long enough. -/
theorem to_arr (hgd : o.guard = none) {t e : TypeId} {n : Nat} {x : Operand} (ho : o.op = .sliceToArrayPointer t x) {N : Tmp} (_hd : o.dst = some N) {A : Option Addr} {m c : Nat}
  (hx : a.eval x = .slice A m c) (hu : P.underlying t = some (.array n e)) (hm : n ≤ m)
  (h : wpList P ops Q rest (a.put o.dst (.pointer A)) W) : wpList P ops Q (o :: rest) a W := by
 refine Kd.event_run hgd (v := .pointer A) (w1 := W) ?_ h
 unfold execOp
 simp [ho, hx, Instr.arrayAt, run_underlying hu, show ¬ m < n by omega]
/-- A whole array read, from a place that a slice reads. -/
theorem load_arr {α : Type} (enc : α → Value) {h1 : ∀ x : α, (enc x).oneCell' = true} (hgd : o.guard = none) {t e : TypeId} {n : Nat} {x : Operand} (ho : o.op = .load t x) {N : Tmp} (_hd : o.dst = some N) {A : Option Addr} {xs : List α}
  (hx : a.eval x = .pointer A) (hu : P.underlying t = some (.array n e)) (hi : (P.info? t).map (·.size) = some n) (hn : 0 < n) (hl : n = xs.length) (hr : (Kd.scalar enc h1).C W A xs.length xs)
  (h : wpList P ops Q rest (a.put o.dst (.agg (xs.map enc).toArray)) W) : wpList P ops Q (o :: rest) a W := by
 obtain ⟨_, _, hr3⟩ := hr
 obtain ⟨ad, rfl, hr4⟩ := hr3 (by omega)
 refine Kd.event_run hgd (v := .agg (xs.map enc).toArray) (w1 := W) ?_ h
 have hl2 : (loadCells ad (xs.map enc).length).run P W = .ok (xs.map enc).toArray W := by
  refine run_loadCells_list (P := P) W ad _ (fun j v hv => ?_)
  rw [List.getElem?_map] at hv
  obtain ⟨y, hy, rfl⟩ := Option.map_eq_some_iff.mp hv
  obtain ⟨c, _, hc, hcc⟩ := hr4 j y hy
  have hc' : c = [enc y] := hc
  subst hc'
  have := hcc 0 (enc y) rfl
  simpa [Kd.scalar] using this
 cases hq : P.info? t with
 | none => simp [hq] at hi
 | some i =>
  have hs : i.size = (xs.map enc).length := by simp [hq] at hi; simp; omega
  have hagg : (isAgg t).run P W = .ok true W := by
   unfold isAgg
   simp [run_underlying hu]
  unfold execOp
  simp [ho, hx, Instr.loadAt, Instr.sureAddr, loadVar, hagg, sizeOf, typeInfo, hq, hs]
  rw [List.length_map] at hl2
  rw [hl2]
  rfl
end
/-- The slice of a whole array that one owns. -/
theorem R_of_arr {α : Type} (enc : α → Value) (h1 : ∀ x : α, (enc x).oneCell' = true) {W : World} {g T base : Nat} {ok : Nat → Prop} {xs : List α} (hg : W.heap[g]? = some (.cells (xs.map enc).toArray T (0, 0))) (hb : base ≤ g) (hok : ok g) (hp : 0 < xs.length) (hm : xs.length ≤ 281474976710656) :
  (Kd.scalar enc h1).R T W base ok (.slice (some ⟨g, 0, none⟩) xs.length xs.length) xs := by
 refine ⟨fun k hk => ?_, xs.map enc, ⟨by simp [Kd.scalar], .inr ⟨g, xs.length, _, rfl, hb, hg, Nat.le_refl _, ?_, by simp [Kd.scalar], ?_⟩⟩, by simp [Kd.scalar], ?_⟩
 ·simp [Value.ownBlock] at hk; exact hk ▸ hok
 ·unfold maxLen; omega
 ·simp [Kd.scalar, List.take_of_length_le]
 ·intro j p hj
  show _ = [enc p]
  have hjl := (List.getElem?_eq_some_iff.1 hj).1
  simp only [Kd.scalar, Nat.mul_one]
  rw [List.drop_eq_getElem_cons (by simpa using hjl)]
  have := (List.getElem?_eq_some_iff.1 hj).2
  simp [this]
end Go.Proofs.YtejecjjimggjeaaH
