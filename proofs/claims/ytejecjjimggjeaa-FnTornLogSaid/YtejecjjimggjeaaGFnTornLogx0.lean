/- Written by give.py, a program of this session, that runs the kit's print and lays contracts proved by hand beside it. -/
import Derived.Test.YtejecjjimggjeaaProg
import Derived.Below
import Derived.Deep.Draws
import Derived.Deep.AppendLies
import Derived.Maps.AppendAt
import Derived.OwnWalk
import Derived.Laws.BytesArg
import Derived.Laws.MakeOwn
import Derived.Laws.OwnMore
import Derived.Deep.OwnRows
import Derived.Tactics
import Derived.Lib.ConvBytes
import Derived.Laws.Slices
import Derived.WalkKit
import Derived.KernelRfl
import Derived.RowKit3
import Derived.Deep.LoopGhost
import Derived.Deep.QuietTactic
import Derived.BigQuiet
import Derived.WideLaws
import Derived.Deep.DeepCutAuto
import Derived.Deep.CutBlock
import Derived.Deep.RegionHeld3
import Derived.Laws.Rows
import Derived.Lib.AppendStr
import Derived.ArgAppend
import Derived.Laws.IdiomCopy
import Derived.OrdersHeld
import Derived.Laws.BitsLemmas
import Derived.RowKit
import Derived.Test.YtejecjjimggjeaaHStores
import Derived.Test.YtejecjjimggjeaaHStrs
import Derived.Test.YtejecjjimggjeaaHAppStr
import Derived.Lib.Bytes
import Derived.LoopIn
import Derived.LoopNIn
import Derived.OwnWalkIn
import Derived.Shelf.Abstract
import Derived.TacticsInMore
import Derived.Test.YtejecjjimggjeaaHArrays
import Derived.Test.YtejecjjimggjeaaHRange
import Derived.Test.YtejecjjimggjeaaVWords
import Derived.Test.YtejecjjimggjeaaVLast
import Derived.Test.YtejecjjimggjeaaVTab
import Derived.Test.YtejecjjimggjeaaVFour
import Derived.Test.YtejecjjimggjeaaVQPut
import Derived.Test.YtejecjjimggjeaaVApart
import Derived.Test.YtejecjjimggjeaaVArr
import Derived.Test.YtejecjjimggjeaaVZeros
import Derived.Test.YtejecjjimggjeaaVFoot
import Derived.Test.YtejecjjimggjeaaVKept
import Derived.Test.YtejecjjimggjeaaVShare
import Derived.Test.YtejecjjimggjeaaVN
import Derived.Test.YtejecjjimggjeaaVFootNe
import Derived.Test.YtejecjjimggjeaaVAt
import Derived.Test.YtejecjjimggjeaaVEqStruct
import Derived.Test.YtejecjjimggjeaaVRepsOne
import Derived.Test.YtejecjjimggjeaaVInv
import Derived.Test.YtejecjjimggjeaaVInvWords
import Derived.Test.YtejecjjimggjeaaVGuard
import Derived.Test.YtejecjjimggjeaaVNEv
import Derived.Test.YtejecjjimggjeaaVMore
namespace Go.Proofs.Ytejecjjimggjeaa.GFnTornLog
open Go.RowKit Go.Proofs.YtejecjjimggjeaaW.PrintWords Go.Proofs.YtejecjjimggjeaaW.PrintLast Go.Proofs.YtejecjjimggjeaaW.PrintMore
attribute [local go_sem] max2_int min2_int max_two min_two max_three min_three max_four min_four
attribute [local go_sem high] Go.Proofs.YtejecjjimggjeaaH.str_leq Go.Proofs.YtejecjjimggjeaaH.str_geq Go.Proofs.YtejecjjimggjeaaH.str_gtr   -- for this text's walks alone
set_option linter.unusedVariables false
set_option linter.unusedSimpArgs false



def errW : Option Int → Value
 | none => .nilIface
 | some c => .iface 0 (.int .i64 c)
theorem errW_none : errW none = .nilIface := rfl
theorem errW_some (c : Int) : errW (some c) = .iface 0 (.int .i64 c) := rfl

theorem info3 : (Try.prog.info? 3).map (fun i => (i.zero, i.size, i.bytes)) = some (some (.int .i64 0), 1, 8) := by kernel_rfl
theorem info5 : (Try.prog.info? 5).map (fun i => (i.zero, i.size, i.bytes)) = some (some (.int .u8 0), 1, 1) := by kernel_rfl
theorem info9 : (Try.prog.info? 9).map (fun i => (i.zero, i.size, i.bytes)) = some (some (.string ⟨#[]⟩), 1, 16) := by kernel_rfl
structure S50 where
 f0 : (List Int)
def z50 : S50 := ⟨([] : List Int)⟩
def k50 : Kd S50 := Kd.iso (Kd.slice 5 (Kd.int .u8)) (fun x : S50 => x.f0)
theorem k50_open {w : World} {x : S50} {cs : List Value} (h : k50.K w x cs) : ∃ A0 c0, cs = [.slice A0 x.f0.length c0] ∧ x.f0.length ≤ c0 ∧ (Kd.int .u8).C w A0 x.f0.length x.f0 := by
 obtain ⟨A0, c0, rfl, l0, g0⟩ := h
 exact ⟨A0, c0, rfl, l0, g0⟩
theorem k50_openM {w : World} {base : Nat} {ok : Nat → Prop} {x : S50} {cs : List Value} (h : k50.M w base ok x cs) : ∃ v0, cs = [v0] ∧ (Kd.int .u8).R 5 w base ok v0 x.f0 := by
 obtain ⟨v0, rfl, g0⟩ := h
 exact ⟨v0, rfl, g0⟩
theorem k50_mkM (w : World) (base : Nat) (ok : Nat → Prop) (x : S50) {v0 : Value} (g0 : (Kd.int .u8).R 5 w base ok v0 x.f0) : k50.M w base ok x [v0] := ⟨v0, rfl, g0⟩
def rd_T50 (xs : List S50) (i : Int) : S50 := xs.getD i.toNat z50
theorem at_T50 {w : World} {A : Option Addr} {n : Nat} {xs : List S50} (h : Kd.C k50 w A n xs) (i : Int) (h0 : 0 ≤ i) (h1 : i < n) : ∃ ad A0 c0, A = some ad ∧ w.cell? (ad.add i.toNat) = some (.slice A0 (rd_T50 xs i).f0.length c0) ∧ (rd_T50 xs i).f0.length ≤ c0 ∧ (Kd.int .u8).C w A0 (rd_T50 xs i).f0.length (rd_T50 xs i).f0 := by
 obtain ⟨ad, c, e, _, hK, hc0⟩ := Kd.C_get h z50 i h0 h1
 have hc : ∀ j u, c[j]? = some u → w.cell? (ad.add (i.toNat * 1 + j)) = some u := hc0
 obtain ⟨A0, c0, rfl, l0, g0⟩ := k50_open hK
 exact ⟨ad, A0, c0, e, by have hq := hc 0 _ rfl; rwa [Nat.mul_one, Nat.add_zero] at hq, l0, g0⟩

end Go.Proofs.Ytejecjjimggjeaa.GFnTornLog
