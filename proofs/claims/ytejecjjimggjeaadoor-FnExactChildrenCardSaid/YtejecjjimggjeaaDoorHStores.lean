/- Written by this session: a slice's value, held as a whole, is stored into a cell. No condition. -/
import Derived.Test.YtejecjjimggjeaaDoorVWords
namespace Go.Proofs.YtejecjjimggjeaaDoorH
open Go Go.RowKit Go.Proofs.YtejecjjimggjeaaDoorW.PrintWords
end Go.Proofs.YtejecjjimggjeaaDoorH
