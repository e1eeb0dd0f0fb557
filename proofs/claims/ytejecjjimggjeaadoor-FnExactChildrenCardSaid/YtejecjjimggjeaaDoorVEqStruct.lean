/- Cut by a program of this session out of the words that the kit's print.sh laid for this seat: the declarations that this claim uses, unchanged. -/
import Derived.Test.YtejecjjimggjeaaDoorVWords
import Derived.Laws.StructEq
namespace Go.Proofs.YtejecjjimggjeaaDoorW.PrintWords
open Go.RowKit
end Go.Proofs.YtejecjjimggjeaaDoorW.PrintWords
