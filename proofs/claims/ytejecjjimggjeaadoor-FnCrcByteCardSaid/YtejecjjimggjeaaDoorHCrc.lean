/- Written by this session: the nibbles' table, read at an index of four bits. No condition. -/
import Derived.Test.YtejecjjimggjeaaDoorHGlob
import Derived.Laws.BitsLemmas
namespace Go.Proofs.YtejecjjimggjeaaDoorH
open Go
def nibAt (i : Int) : Int := tabNIB.getD i.toNat 0
theorem and15_nat (x : Int) : Go.bits .and .u32 x 15 = (((BitVec.ofInt 32 x).toNat &&& 15 : Nat) : Int) := by
  have h : (BitVec.ofInt 32 x).toNat &&& 15 ≤ 15 := Nat.and_le_right
  show IntKind.u32.wrap ((BitVec.ofInt 32 x &&& BitVec.ofInt 32 15).toNat : Int) = _
  rw [BitVec.toNat_and, show (BitVec.ofInt 32 15).toNat = 15 from rfl, IntKind.wrap_u32]
  omega
theorem and15 (x : Int) : 0 ≤ Go.bits .and .u32 x 15 ∧ Go.bits .and .u32 x 15 < 16 := by
  have h : (BitVec.ofInt 32 x).toNat &&& 15 ≤ 15 := Nat.and_le_right
  rw [and15_nat]
  omega
end Go.Proofs.YtejecjjimggjeaaDoorH
