/- Written by give.py, a program of this session, that runs the kit's print and lays contracts proved by hand beside it. -/
import Derived.Test.YtejecjjimggjeaaDoorRows
import Derived.Test.YtejecjjimggjeaaDoorGFnCrcBytex2
import Derived.Test.YtejecjjimggjeaaDoorPureFnCrcByte
import Derived.Test.YtejecjjimggjeaaDoorHOpens
import Derived.Test.YtejecjjimggjeaaDoorTie
import Derived.Test.YtejecjjimggjeaaDoorCards
import Derived.WalkKit
import Derived.ProofKit
import Derived.OpenShut
import Derived.ShutString
import Derived.ChangeOld
import Derived.Below
import Derived.SizedLaws
import Derived.SevenTiedAt
import Derived.Deep.DeepHandedRow
import Derived.OpenVars
import Derived.LaidLaws
import Derived.Lib.LaidTab
import Derived.JoinedCond
import Derived.Shelf.Vars
import Derived.Test.YtejecjjimggjeaaDoorHVars
namespace Go.Proofs.YtejecjjimggjeaaDoor.fnCrcByte
open Go.ChangeShapes Go.WideShapes Go.ChangeAt Go.RowKit
open Go.ChangeMaps (open_string shut_string)
open Go.Proofs.YtejecjjimggjeaaDoor.GFnCrcByte Go.Proofs.YtejecjjimggjeaaDoorH Go.Proofs.YtejecjjimggjeaaDoorW.PrintWords Go.Proofs.YtejecjjimggjeaaDoorW.PrintLast
set_option linter.unusedVariables false
theorem own : ownKnob Tryd.prog.godebug = none := by kernel_rfl
theorem laidOut : laidOutB Tryd.prog = true := by kernel_rfl
noncomputable def laidWorld (os : Os) : World := { World.holding Tryd.prog os ⟨#[], #[], []⟩ with heap := (((World.holding Tryd.prog os ⟨#[], #[], []⟩).heap).modify 0 fun | .cells _ t frozen => .cells (Go.Proofs.YtejecjjimggjeaaDoorH.flatD Rows.laid_loop_example_s01594_impl_nibbles).toArray t frozen | o => o) }
set_option maxRecDepth 100000 in
theorem laid_met (os : Os) : laidMetH Tryd.prog Rows.fnCrcByteRow.laid ((laidWorld os).forCall (fun _ _ => 0) ⟨#[], #[.slice none 0 0, .slice none 0 0], []⟩).memory :=
  laidMet_of_run' 8 (by kernel_rfl) (by kernel_rfl)
set_option maxHeartbeats 8000000 in
set_option maxRecDepth 100000 in
theorem lifted (os : Os) (started : os.Started) (H : Type) (enc : TypeId × Value → H) (F : Stop.Interp) :
    ReturnsInHanded {} Tryd.checked os 4 .any ((OpenSpec.ofChange Rows.fnCrcByteSpec).preRow enc Tryd.prog Tryd.f4 Rows.fnCrcByteRow.domain false Rows.fnCrcByteRow.laid) (((OpenSpec.ofChange Rows.fnCrcByteSpec).at F).post enc Tryd.prog Tryd.f4 false true false false) := by
  refine returnsInHanded_of_row (C := Tryd.checked) (s := (OpenSpec.ofChange Rows.fnCrcByteSpec)) own started (by kernel_rfl) Tryd.func4
    (witness_row_at (enc := enc) (C := Tryd.checked) false (laidWorld os) #[.slice none 0 0, .slice none 0 0] rfl (by kernel_rfl) (by kernel_rfl) (by kernel_rfl) (OpenSpec.preRow_of_B rfl 8 (by kernel_rfl) (by kernel_rfl) (laid_met os))) ?_
  intro W base args ds gs before hval0 hW _ _ hsz0 hL hsh _
  have hval : ∀ (j : Nat) t v, Tryd.f4.params[j]? = some t → args[j]? = some v → Value.okWide Tryd.prog W .any base t v := hval0
  have hW' := hW
  obtain ⟨p, q, hA0, hV, rfl, hfz, hnd⟩ := hW
  have hA : DataW.TrodAll enc Tryd.prog W 0 (fun _ => true) true Tryd.f4.params.toList args.toList ds p := hA0
  rw [Tryd.params4] at hA hval
  have hGl : gs.length = 1 := trodVars_len hV
  obtain ⟨g0_, rfl⟩ : ∃ g0_, gs = [g0_] := by
    match gs, hGl with | [a0], _ => exact ⟨a0, rfl⟩
  have hGNIB_ : Go.Proofs.YtejecjjimggjeaaDoorH.GFNIB W := fun i hi => (Go.Lib.tabIs_of_head (P := Tryd.prog) (W := W) (g := 0) (k := .u32) (zs := Go.Proofs.YtejecjjimggjeaaDoorH.tabNIB) (by kernel_rfl) (by kernel_rfl) Tryd.underlying72 Tryd.underlying71 (by kernel_rfl) (by kernel_rfl) (hL : laidMet Tryd.prog _ W)).cell (by kernel_rfl) i hi
  obtain ⟨v0, vs0, d0, ds0, p0, q0, hargs, rfl, rfl, h0, r0⟩ := trodAll_cons hA
  obtain ⟨v1, vs1, d1, ds1, p1, q1, rfl, rfl, rfl, h1, r1⟩ := trodAll_cons r0
  obtain ⟨rfl, rfl, rfl⟩ := trodAll_nil r1
  obtain rfl : args = #[v0, v1] := by cases args; simp_all
  have kk0 := h0
  have lt0 : ∀ x ∈ p0, x.block < W.heap.size := by obtain ⟨m, hm⟩ := kk0; exact DataW.trod_lt m _ _ _ hm
  obtain ⟨a0, len0, cap0, rfl⟩ := okWide_slice Tryd.underlying22 (hval 0 22 v0 rfl rfl)
  obtain ⟨fuel0, hf0⟩ := h0
  obtain ⟨x0, hk0, hw0⟩ := (Opens.slice Tryd.underlying22 (by kernel_rfl) (@Opens.int Tryd.prog 5 .u8 Tryd.underlying5)) enc W 0 (fun _ => true) true fuel0 _ _ hf0
  obtain ⟨A1_, c1_, hcs0, hc1_, hr1_⟩ := hk0
  obtain ⟨rfl, rfl, rfl⟩ : A1_ = a0 ∧ x0.length = len0 ∧ c1_ = cap0 := by have h_ := hcs0; simp [Value.cells] at h_; exact ⟨h_.1.symm, h_.2.1.symm, h_.2.2.symm⟩
  have kk1 := h1
  have lt1 : ∀ x ∈ p1, x.block < W.heap.size := by obtain ⟨m, hm⟩ := kk1; exact DataW.trod_lt m _ _ _ hm
  obtain ⟨a1, len1, cap1, rfl⟩ := okWide_slice Tryd.underlying22 (hval 1 22 v1 rfl rfl)
  obtain ⟨fuel1, hf1⟩ := h1
  obtain ⟨x1, hk1, hw1⟩ := (Opens.slice Tryd.underlying22 (by kernel_rfl) (@Opens.int Tryd.prog 5 .u8 Tryd.underlying5)) enc W 0 (fun _ => true) true fuel1 _ _ hf1
  obtain ⟨A2_, c2_, hcs1, hc2_, hr2_⟩ := hk1
  obtain ⟨rfl, rfl, rfl⟩ : A2_ = a1 ∧ x1.length = len1 ∧ c2_ = cap1 := by have h_ := hcs1; simp [Value.cells] at h_; exact ⟨h_.1.symm, h_.2.1.symm, h_.2.2.symm⟩
  obtain ⟨k, hh⟩ := Pure.FnCrcByte x0 x1 hw0 hw1
  clear hA0 hval0 hsz0
  refine (laws_FnCrcByte.calls k A1_ c1_ x0 A2_ c2_ x1 true W hr1_ hc1_ hr2_ hc2_ hh hGNIB_).mono fun e W' ⟨he, bel⟩ => ?_
  subst he
  exact ⟨_, rfl, _, _, _, [], _, q, hW', trodAll_mk1 (shut_bool Tryd.underlying4 _), (trodAll_cons_mk (Below.trod laidOut (by kernel_rfl) (of_decide_eq_true (by kernel_rfl)) kk0 bel lt0) (trodAll_cons_mk (Below.trod laidOut (by kernel_rfl) (of_decide_eq_true (by kernel_rfl)) kk1 bel lt1) trodAll_mk0)), Below.trodVars laidOut bel (by kernel_rfl) hV, bel.frame _, fun h => by cases h⟩
theorem over : Rows.fnCrcByteRow.holds Tryd.pinned (OpenSpec.ofChange Rows.fnCrcByteSpec) :=
  OpenClaim.holds_of_cond 4 Tryd.f4 rfl rfl rfl rfl rfl rfl rfl ⟨rfl, rfl, rfl, rfl, rfl⟩ rfl rfl rfl rfl rfl (by kernel_rfl) Tryd.func4 (by kernel_rfl)
    (of_decide_eq_true (by kernel_rfl)) (by unfold Func.isWrapper; first | (rw [if_pos (by decide +kernel)]; kernel_rfl) | (rw [if_neg (by decide +kernel)]; exact ⟨rfl, rfl⟩))
    (fun os started H enc _ F0 => by rw [OpenClaim.pre_eq_preRow]; exact lifted os started H enc F0)
theorem card : Rows.FnCrcByteCardSaid :=
  Claim7.holds_tied_plain_at .later [] [.data] true (true, "7eac08beafe4578f115470f8e3fee0b3433b76e3cd2f3cfd95b4b8f75153eaa9") true over (fun _ h => by cases h) (by kernel_rfl) (fun _ h => by cases h) fnCrcByte_row_tie rfl ⟨rfl, rfl⟩ (by kernel_rfl) rfl
    (fun f fn hf hfn => by
      obtain rfl : f = 4 := Option.some.inj ((show Tryd.prog.funcNamed "loop.example/s01594/laws.FnCrcByte" = some 4 by kernel_rfl).symm.trans hf) |>.symm
      obtain rfl : fn = Tryd.f4 := (Option.some.inj (Tryd.func4.symm.trans hfn)).symm
      refine ⟨by kernel_rfl, fun j t ht => ?_⟩
      have h_ : t ∈ Tryd.f4.params.toList := Array.mem_toList_iff.2 (Array.mem_of_getElem? ht)
      have ha_ : Tryd.f4.params.toList.all (fun t => Tryd.prog.wantsStandIn t == false) = true := by kernel_rfl
      exact (show Tryd.prog.wantsStandIn t = false by simpa using (List.all_eq_true.1 ha_ t h_)))
    (by kernel_rfl)
end Go.Proofs.YtejecjjimggjeaaDoor.fnCrcByte
namespace Go.Proofs.YtejecjjimggjeaaDoor
/-- The card, under a short name, for the claim. -/
theorem fnCrcByte_holds : Rows.FnCrcByteCardSaid := fnCrcByte.card
end Go.Proofs.YtejecjjimggjeaaDoor
