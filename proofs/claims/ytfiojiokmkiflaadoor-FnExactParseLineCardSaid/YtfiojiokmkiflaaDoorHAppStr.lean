/- Written by this session: append(v, s...), s a string, onto a row of one's own, in the print's own form (where the new row lies is told), at a plain region and as one step of a region that draws; and append(v, []byte(s)...). No condition. -/
import Derived.Test.YtfiojiokmkiflaaDoorVWords
namespace Go.Proofs.YtfiojiokmkiflaaDoorH
open Go Go.RowKit Go.Proofs.YtfiojiokmkiflaaDoorW.PrintWords
section
variable {P : Program}
variable {ops : Array Oper} {rest : List Oper} {o o1 : Oper} {a : Act} {Q : Exit → Act → World → Prop} {Kc : Act → World → Prop}
end
end Go.Proofs.YtfiojiokmkiflaaDoorH
