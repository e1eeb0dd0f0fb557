/- Written by this session: how strings compare, in the print's own spelling. No condition. -/
import Derived.Test.YtfiojiokmkiflaaDoorVWords
namespace Go.Proofs.YtfiojiokmkiflaaDoorH
open Go Go.RowKit
theorem bytesLess_le : ∀ x y : List UInt8, (Op.bytesLess x y || x == y) = !(Op.bytesLess y x)
 | [], [] => rfl
 | [], _ :: _ => rfl
 | _ :: _, [] => rfl
 | a :: x, b :: y => by
  have ih := bytesLess_le x y
  rw [Op.bytesLess, Op.bytesLess]
  by_cases h : a = b
  ·subst h
   have h1 : ¬ a < a := UInt8.lt_irrefl a
   simp only [h1, decide_false, Bool.false_or, BEq.rfl, Bool.true_and]
   rw [← ih]; simp
  ·have h2 : (a == b) = false := by simpa using h
   have h3 : (b == a) = false := by simpa using fun e : b = a => h e.symm
   have h4 : (a :: x == b :: y) = false := by simp [h]
   rw [h2, h3, h4]
   simp only [Bool.false_and, Bool.or_false]
   by_cases h5 : a < b
   ·have h6 : ¬ b < a := by rw [UInt8.lt_iff_toNat_lt] at *; omega
    simp [h5, h6]
   ·have h6 : b < a := by
     rw [UInt8.lt_iff_toNat_lt] at *
     have : a.toNat ≠ b.toNat := fun e => h (UInt8.toNat_inj.mp e)
     omega
    simp [h5, h6]
theorem str_leq (t : TypeId) (a b : ByteArray) : binOp .leq t (.string a) (.string b) = pure (.bool !(Op.bytesLess b.toList a.toList)) := by
 rw [← bytesLess_le]; simp [binOp, Op.stringOp]
theorem str_geq (t : TypeId) (a b : ByteArray) : binOp .geq t (.string a) (.string b) = pure (.bool !(Op.bytesLess a.toList b.toList)) := by simp [binOp, Op.stringOp]
theorem str_gtr (t : TypeId) (a b : ByteArray) : binOp .gtr t (.string a) (.string b) = pure (.bool (Op.bytesLess b.toList a.toList)) := by
 have h := bytesLess_le a.toList b.toList
 have e : Op.bytesLess b.toList a.toList = !(Op.bytesLess a.toList b.toList || a.toList == b.toList) := by rw [h, Bool.not_not]
 rw [e]; simp [binOp, Op.stringOp]
end Go.Proofs.YtfiojiokmkiflaaDoorH
