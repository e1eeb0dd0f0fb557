/- Written by this session: a slice's value, held as a whole, is stored into a cell. No condition. -/
import Derived.Test.YtejecjjimggjeaaVWords
namespace Go.Proofs.YtejecjjimggjeaaH
open Go Go.RowKit Go.Proofs.YtejecjjimggjeaaW.PrintWords
end Go.Proofs.YtejecjjimggjeaaH
