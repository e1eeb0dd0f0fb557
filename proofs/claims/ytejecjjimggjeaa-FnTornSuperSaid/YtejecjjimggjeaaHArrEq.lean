/- Written by this session: '==' of two arrays of whole numbers. No condition on the program. -/
import Derived.Laws.StructEq
import Derived.WalkKit
namespace Go.Proofs.YtejecjjimggjeaaH
open Go Go.RowKit
section
variable {P : Program} {w : World}
theorem part_int {e : TypeId} {k : IntKind} (he : P.underlying e = some (.int k)) (xs : List Int) (i : Nat) (hi : i < xs.length) : (part e (xs.map (Value.int k)).toArray i).run P w = .ok (.int k xs[i]) w := by
 have hag : (isAgg e).run P w = .ok false w := by simp [isAgg, run_underlying he]
 have hx : (xs.map (Value.int k)).toArray[i]? = some (.int k xs[i]) := by simp [hi]
 unfold part
 simp only [Sem.run_bind, hag, Result.andThen_ok, Bool.false_eq_true, if_false, hx, Sem.run_pure]
theorem run_equalIn_arr (d : Nat) {t e : TypeId} {n : Nat} {k : IntKind} (ht : P.underlying t = some (.array n e)) (he : P.underlying e = some (.int k)) (hs : (sizeOf e).run P w = .ok 1 w) (xs ys : List Int) (hx : xs.length = n) (hy : ys.length = n) :
  (Op.equalIn (d + 1 + 1) t (.agg (xs.map (Value.int k)).toArray) (.agg (ys.map (Value.int k)).toArray)).run P w = .ok (decide (xs = ys)) w := by
 rw [Op.equalIn]
 simp only [Sem.run_bind, run_underlying ht, Result.andThen_ok, hs, Nat.mul_one, Std.Legacy.Range.forIn_eq_forIn_range', Std.Legacy.Range.size, Nat.sub_zero, Nat.add_sub_cancel, Nat.div_one]
 have key : ∀ m j : Nat, j + m = n → (Sem.run P (forIn (m := Sem) (List.range' j m) ((none, ()) : Option Bool × Unit) fun i __s => do
   let __do_lift ← part e (xs.map (Value.int k)).toArray i
   let __do_lift_1 ← part e (ys.map (Value.int k)).toArray i
   let __do_lift ← Op.equalIn (d + 1) e __do_lift __do_lift_1
   if (!__do_lift) = true then pure (ForInStep.done (some false, ())) else pure (ForInStep.yield (none, ()))) w) = .ok (if xs.drop j = ys.drop j then (none, ()) else (some false, ())) w := by
  intro m
  induction m with
  | zero =>
   intro j hj
   rw [List.drop_of_length_le (by omega), List.drop_of_length_le (by omega), if_pos rfl]
   simp
  | succ m ih =>
   intro j hj
   have hjx : j < xs.length := by omega
   have hjy : j < ys.length := by omega
   have hih := ih (j + 1) (by omega)
   rw [List.range'_succ, List.forIn_cons]
   simp only [Sem.run_bind, part_int he xs j hjx, part_int he ys j hjy, Result.andThen_ok, run_equalIn_int w d e k k xs[j] ys[j] he]
   rw [List.drop_eq_getElem_cons hjx, List.drop_eq_getElem_cons hjy]
   by_cases c : xs[j] = ys[j]
   ·have cb : (xs[j] == ys[j]) = true := beq_iff_eq.mpr c
    rw [cb]
    simp only [Bool.not_true, Bool.false_eq_true, if_false, Sem.run_pure, Result.andThen_ok]
    rw [hih]
    simp only [List.cons.injEq, c, true_and]
   ·have cb : (xs[j] == ys[j]) = false := beq_eq_false_iff_ne.mpr c
    rw [cb]
    simp only [Bool.not_false, if_true, Sem.run_pure, Result.andThen_ok, List.cons.injEq, c, false_and, if_false]
 rw [key n 0 (by omega)]
 simp only [Result.andThen_ok, List.drop_zero]
 by_cases c : xs = ys
 ·rw [if_pos c]; simp [c]
 ·rw [if_neg c]; simp [c]
theorem run_neq_arr {t e : TypeId} {n : Nat} {k : IntKind} (ht : P.underlying t = some (.array n e)) (he : P.underlying e = some (.int k)) (hs : ∀ w, (sizeOf e).run P w = .ok 1 w) (xs ys : List Int) (hx : xs.length = n) (hy : ys.length = n) :
  (binOp .neq t (.agg (xs.map (Value.int k)).toArray) (.agg (ys.map (Value.int k)).toArray)).run P w = .ok (.bool (!decide (xs = ys))) w := by
 rw [run_neq_struct, show (10000 : Nat) = 9998 + 1 + 1 from rfl, run_equalIn_arr 9998 ht he (hs w) xs ys hx hy]
 rfl
end
end Go.Proofs.YtejecjjimggjeaaH
