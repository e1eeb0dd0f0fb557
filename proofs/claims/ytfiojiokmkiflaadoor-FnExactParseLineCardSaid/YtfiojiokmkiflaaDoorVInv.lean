/- Cut by a program of this session out of the words that the kit's print.sh laid for this seat: the declarations that this claim uses, unchanged. -/
import Derived.Test.YtfiojiokmkiflaaDoorVTab
namespace Go.Proofs.YtfiojiokmkiflaaDoorW.PrintLast
/-- Number i is listed too. -/
def up (b : Nat → Bool) (i : Nat) : Nat → Bool := fun j => if j = i then true else b j
end Go.Proofs.YtfiojiokmkiflaaDoorW.PrintLast
