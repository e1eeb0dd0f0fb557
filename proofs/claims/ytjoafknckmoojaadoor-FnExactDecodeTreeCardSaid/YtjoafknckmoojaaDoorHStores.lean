/- Written by this session: a slice's value, held as a whole, is stored into a cell. No condition. -/
import Derived.Test.YtjoafknckmoojaaDoorVWords
namespace Go.Proofs.YtjoafknckmoojaaDoorH
open Go Go.RowKit Go.Proofs.YtjoafknckmoojaaDoorW.PrintWords
end Go.Proofs.YtjoafknckmoojaaDoorH
