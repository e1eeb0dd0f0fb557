/- Cut by a program of this session out of the words that the kit's print.sh laid for this seat: the declarations that this claim uses, unchanged. -/
import Derived.Test.YtfiojiokmkiflaaDoorVWords
import Derived.Laws.StructEq
namespace Go.Proofs.YtfiojiokmkiflaaDoorW.PrintWords
open Go.RowKit
end Go.Proofs.YtfiojiokmkiflaaDoorW.PrintWords
