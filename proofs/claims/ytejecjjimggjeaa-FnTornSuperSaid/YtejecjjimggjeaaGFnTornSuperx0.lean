/- Written by give.py, a program of this session, that runs the kit's print and lays contracts proved by hand beside it. -/
import Derived.Test.YtejecjjimggjeaaProg
import Derived.Below
import Derived.Deep.Draws
import Derived.Deep.AppendLies
import Derived.Maps.AppendAt
import Derived.OwnWalk
import Derived.Laws.BytesArg
import Derived.Laws.MakeOwn
import Derived.Laws.OwnMore
import Derived.Deep.OwnRows
import Derived.Tactics
import Derived.Lib.ConvBytes
import Derived.Laws.Slices
import Derived.WalkKit
import Derived.KernelRfl
import Derived.RowKit3
import Derived.Deep.LoopGhost
import Derived.Deep.QuietTactic
import Derived.BigQuiet
import Derived.WideLaws
import Derived.Deep.DeepCutAuto
import Derived.Deep.CutBlock
import Derived.Deep.RegionHeld3
import Derived.Laws.Rows
import Derived.Lib.AppendStr
import Derived.ArgAppend
import Derived.Laws.IdiomCopy
import Derived.OrdersHeld
import Derived.Laws.BitsLemmas
import Derived.RowKit
import Derived.Test.YtejecjjimggjeaaHStores
import Derived.Test.YtejecjjimggjeaaHStrs
import Derived.Test.YtejecjjimggjeaaHAppStr
import Derived.Test.YtejecjjimggjeaaHArrays
import Derived.Lib.Bytes
import Derived.Recover
import Derived.Shelf.Abstract
import Derived.StillTailTactics
import Derived.Test.YtejecjjimggjeaaHArrEq
import Derived.Test.YtejecjjimggjeaaHArrays
import Derived.Test.YtejecjjimggjeaaHMaps
import Derived.WalkLawsBesides
import Derived.Test.YtejecjjimggjeaaVWords
import Derived.Test.YtejecjjimggjeaaVLast
import Derived.Test.YtejecjjimggjeaaVTab
import Derived.Test.YtejecjjimggjeaaVFour
import Derived.Test.YtejecjjimggjeaaVQPut
import Derived.Test.YtejecjjimggjeaaVApart
import Derived.Test.YtejecjjimggjeaaVArr
import Derived.Test.YtejecjjimggjeaaVZeros
import Derived.Test.YtejecjjimggjeaaVFoot
import Derived.Test.YtejecjjimggjeaaVKept
import Derived.Test.YtejecjjimggjeaaVShare
import Derived.Test.YtejecjjimggjeaaVN
import Derived.Test.YtejecjjimggjeaaVFootNe
import Derived.Test.YtejecjjimggjeaaVAt
import Derived.Test.YtejecjjimggjeaaVEqStruct
import Derived.Test.YtejecjjimggjeaaVRepsOne
import Derived.Test.YtejecjjimggjeaaVInv
import Derived.Test.YtejecjjimggjeaaVInvWords
import Derived.Test.YtejecjjimggjeaaVGuard
import Derived.Test.YtejecjjimggjeaaVNEv
import Derived.Test.YtejecjjimggjeaaVMore
namespace Go.Proofs.Ytejecjjimggjeaa.GFnTornSuper
open Go.RowKit Go.Proofs.YtejecjjimggjeaaW.PrintWords Go.Proofs.YtejecjjimggjeaaW.PrintLast Go.Proofs.YtejecjjimggjeaaW.PrintMore
attribute [local go_sem] max2_int min2_int max_two min_two max_three min_three max_four min_four
attribute [local go_sem high] Go.Proofs.YtejecjjimggjeaaH.str_leq Go.Proofs.YtejecjjimggjeaaH.str_geq Go.Proofs.YtejecjjimggjeaaH.str_gtr   -- for this text's walks alone
set_option linter.unusedVariables false
set_option linter.unusedSimpArgs false



def errW : Option Int → Value
 | none => .nilIface
 | some c => .iface 0 (.int .i64 c)
theorem errW_none : errW none = .nilIface := rfl
theorem errW_some (c : Int) : errW (some c) = .iface 0 (.int .i64 c) := rfl

theorem info5 : (Try.prog.info? 5).map (fun i => (i.zero, i.size, i.bytes)) = some (some (.int .u8 0), 1, 1) := by kernel_rfl
end Go.Proofs.Ytejecjjimggjeaa.GFnTornSuper
