/- Written by give.py, a program of this session, that runs the kit's print and lays contracts proved by hand beside it. -/
import Derived.Test.YtlpjpmfhkmddjaaDoorProg
import Derived.Below
import Derived.Deep.Draws
import Derived.Deep.AppendLies
import Derived.Maps.AppendAt
import Derived.OwnWalk
import Derived.Laws.BytesArg
import Derived.Laws.MakeOwn
import Derived.Laws.OwnMore
import Derived.Deep.OwnRows
import Derived.Tactics
import Derived.Lib.ConvBytes
import Derived.Laws.Slices
import Derived.WalkKit
import Derived.KernelRfl
import Derived.RowKit3
import Derived.Deep.LoopGhost
import Derived.Deep.QuietTactic
import Derived.BigQuiet
import Derived.WideLaws
import Derived.Deep.DeepCutAuto
import Derived.Deep.CutBlock
import Derived.Deep.RegionHeld3
import Derived.Laws.Rows
import Derived.Lib.AppendStr
import Derived.ArgAppend
import Derived.Laws.IdiomCopy
import Derived.OrdersHeld
import Derived.Laws.BitsLemmas
import Derived.RowKit
import Derived.Test.YtlpjpmfhkmddjaaDoorHStores
import Derived.Test.YtlpjpmfhkmddjaaDoorHGlob
import Derived.Lib.CountLaws
import Derived.Lib.Split
import Derived.Test.YtlpjpmfhkmddjaaDoorHArrays
import Derived.Test.YtlpjpmfhkmddjaaDoorHGlob
import Derived.Test.YtlpjpmfhkmddjaaDoorHShelf
import Derived.Test.YtlpjpmfhkmddjaaDoorWWords
import Derived.Test.YtlpjpmfhkmddjaaDoorWLast
import Derived.Test.YtlpjpmfhkmddjaaDoorWTab
import Derived.Test.YtlpjpmfhkmddjaaDoorWFour
import Derived.Test.YtlpjpmfhkmddjaaDoorWQPut
import Derived.Test.YtlpjpmfhkmddjaaDoorWApart
import Derived.Test.YtlpjpmfhkmddjaaDoorWArr
import Derived.Test.YtlpjpmfhkmddjaaDoorWZeros
import Derived.Test.YtlpjpmfhkmddjaaDoorWFoot
import Derived.Test.YtlpjpmfhkmddjaaDoorWKept
import Derived.Test.YtlpjpmfhkmddjaaDoorWShare
import Derived.Test.YtlpjpmfhkmddjaaDoorWN
import Derived.Test.YtlpjpmfhkmddjaaDoorWFootNe
import Derived.Test.YtlpjpmfhkmddjaaDoorWAt
import Derived.Test.YtlpjpmfhkmddjaaDoorWEqStruct
import Derived.Test.YtlpjpmfhkmddjaaDoorWRepsOne
import Derived.Test.YtlpjpmfhkmddjaaDoorWInv
import Derived.Test.YtlpjpmfhkmddjaaDoorWInvWords
import Derived.Test.YtlpjpmfhkmddjaaDoorWGuard
import Derived.Test.YtlpjpmfhkmddjaaDoorWNEv
import Derived.Test.YtlpjpmfhkmddjaaDoorWMore
namespace Go.Proofs.YtlpjpmfhkmddjaaDoor.GFnExactValidPath
open Go.RowKit Go.Proofs.YtlpjpmfhkmddjaaDoorW.PrintWords Go.Proofs.YtlpjpmfhkmddjaaDoorW.PrintLast Go.Proofs.YtlpjpmfhkmddjaaDoorW.PrintMore
attribute [local go_sem] max2_int min2_int max_two min_two max_three min_three max_four min_four   -- for this text's walks alone
set_option linter.unusedVariables false
set_option linter.unusedSimpArgs false



def errW : Option Int → Value
  | none => .nilIface
  | some c => .iface 0 (.int .i64 c)
theorem errW_none : errW none = .nilIface := rfl
theorem errW_some (c : Int) : errW (some c) = .iface 0 (.int .i64 c) := rfl

theorem info9 : (Tryd.prog.info? 9).map (fun i => (i.zero, i.size, i.bytes)) = some (some (.string ⟨#[]⟩), 1, 16) := by kernel_rfl
-- the values' own types
def rd_L1 (xs : List (List ByteArray)) (i : Int) : (List ByteArray) := xs.getD i.toNat ([] : List ByteArray)
theorem at_L1 {w : World} {A : Option Addr} {n : Nat} {xs : List (List ByteArray)} (h : Kd.C (Kd.slice 9 Kd.string) w A n xs) (i : Int) (h0 : 0 ≤ i) (h1 : i < n) : ∃ ad A0 c0, A = some ad ∧ w.cell? (ad.add i.toNat) = some (.slice A0 (rd_L1 xs i).length c0) ∧ (rd_L1 xs i).length ≤ c0 ∧ Kd.string.C w A0 (rd_L1 xs i).length (rd_L1 xs i) := by
  obtain ⟨ad, c, e, _, hK, hc0⟩ := Kd.C_get h ([] : List ByteArray) i h0 h1
  have hc : ∀ j u, c[j]? = some u → w.cell? (ad.add (i.toNat * 1 + j)) = some u := hc0
  obtain ⟨A0, c0, rfl, l0, g0⟩ := hK
  exact ⟨ad, A0, c0, e, by have hq := hc 0 _ rfl; rwa [Nat.mul_one, Nat.add_zero] at hq, l0, g0⟩

end Go.Proofs.YtlpjpmfhkmddjaaDoor.GFnExactValidPath
