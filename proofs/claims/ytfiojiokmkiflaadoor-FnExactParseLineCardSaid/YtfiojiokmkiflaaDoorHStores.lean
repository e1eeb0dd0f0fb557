/- Written by this session: a slice's value, held as a whole, is stored into a cell. No condition. -/
import Derived.Test.YtfiojiokmkiflaaDoorVWords
namespace Go.Proofs.YtfiojiokmkiflaaDoorH
open Go Go.RowKit Go.Proofs.YtfiojiokmkiflaaDoorW.PrintWords
end Go.Proofs.YtfiojiokmkiflaaDoorH
