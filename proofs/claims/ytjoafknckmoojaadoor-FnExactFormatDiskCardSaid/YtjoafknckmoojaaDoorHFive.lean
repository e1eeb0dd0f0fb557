/- Written by this session: the element of an array of five numbers at an index. No condition. -/
import Derived.Test.YtjoafknckmoojaaDoorVWords
namespace Go.Proofs.YtjoafknckmoojaaDoorH
open Go Go.RowKit Go.Proofs.YtjoafknckmoojaaDoorW.PrintWords
def five (a b c d e i : Int) : Int := [a, b, c, d, e].getD i.toNat 0
theorem five_at (a b c d e i : Int) (h0 : 0 ≤ i) (h5 : i < 5) : (#[Value.int .i64 a, .int .i64 b, .int .i64 c, .int .i64 d, .int .i64 e] : Array Value)[i.toNat]? = some (.int .i64 (five a b c d e i)) := by
 obtain ⟨n, rfl⟩ := Int.eq_ofNat_of_zero_le h0
 have hn : n < 5 := by omega
 rcases (show n = 0 ∨ n = 1 ∨ n = 2 ∨ n = 3 ∨ n = 4 by omega) with rfl | rfl | rfl | rfl | rfl <;> rfl
variable {P : Program} {ops : Array Oper} {rest : List Oper} {o : Oper} {a : Act} {Q : Exit → Act → World → Prop} {W : World}
theorem index_five (hgd : o.guard = none) {t e : TypeId} {ke : IntKind} {x i : Operand} {a0 a1 a2 a3 a4 j : Int} (ho : o.op = .index t x i) {N : Tmp} (_hd : o.dst = some N)
  (hx : a.eval x = .agg #[.int .i64 a0, .int .i64 a1, .int .i64 a2, .int .i64 a3, .int .i64 a4]) (hi : a.eval i = .int ke j) (hu : P.underlying t = some (.array 5 e)) (he : P.underlying e = some (.int .i64)) (hz : (P.info? e).map (·.size) = some 1) (h0 : 0 ≤ j) (hj : j < 5)
  (h : wpList P ops Q rest (a.put o.dst (.int .i64 (five a0 a1 a2 a3 a4 j))) W) : wpList P ops Q (o :: rest) a W := by
 refine Kd.event_run hgd (v := .int .i64 (five a0 a1 a2 a3 a4 j)) (w1 := W) ?_ h
 have hv := five_at a0 a1 a2 a3 a4 j h0 hj
 obtain ⟨n, rfl⟩ := Int.eq_ofNat_of_zero_le h0
 have hj' : n < 5 := by omega
 simp only [Int.toNat_natCast] at hv
 cases hq : P.info? e with
 | none => simp [hq] at hz
 | some f =>
  have hs : f.size = 1 := by simpa [hq] using hz
  have hagg : (isAgg e).run P W = .ok false W := by
   unfold isAgg
   simp [run_underlying he]
  unfold execOp
  simp only [ho, hx, hi]
  simp [Instr.index, asIntOf, run_underlying hu, sizeOf, typeInfo, hq, hs, part, hagg, hj']
  rw [List.getElem?_toArray, List.getElem?_eq_getElem (by simpa using hj')] at hv
  exact Option.some.inj hv
end Go.Proofs.YtjoafknckmoojaaDoorH
