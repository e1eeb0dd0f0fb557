/- Written by give.py, a program of this session, that runs the kit's print and lays contracts proved by hand beside it. -/
import Derived.Test.YtejecjjimggjeaaDoorRows
import Derived.Test.YtejecjjimggjeaaDoorGFnExactChildrenx10
import Derived.Test.YtejecjjimggjeaaDoorPureFnExactChildren
import Derived.Test.YtejecjjimggjeaaDoorHOpens
import Derived.Test.YtejecjjimggjeaaDoorTie
import Derived.Test.YtejecjjimggjeaaDoorCards
import Derived.WalkKit
import Derived.ProofKit
import Derived.OpenShut
import Derived.ShutString
import Derived.ChangeOld
import Derived.Below
import Derived.SizedLaws
import Derived.SevenTiedAt
import Derived.Deep.DeepHandedRow
import Derived.OpenVars
import Derived.LaidLaws
import Derived.Lib.LaidTab
import Derived.JoinedCond
import Derived.Shelf.Vars
import Derived.Test.YtejecjjimggjeaaDoorHVars
namespace Go.Proofs.YtejecjjimggjeaaDoor.fnExactChildren
open Go.ChangeShapes Go.WideShapes Go.ChangeAt Go.RowKit
open Go.ChangeMaps (open_string shut_string)
open Go.Proofs.YtejecjjimggjeaaDoor.GFnExactChildren Go.Proofs.YtejecjjimggjeaaDoorH Go.Proofs.YtejecjjimggjeaaDoorW.PrintWords Go.Proofs.YtejecjjimggjeaaDoorW.PrintLast
set_option linter.unusedVariables false
theorem opens100 : Opens Tryd.prog 100 k100 (fun x : S100 => (x.f0.size ≤ maxLen ∧ x.f1.size ≤ maxLen ∧ (Lit.int .i64 x.f2).wf = true ∧ (Lit.int .i64 x.f3).wf = true ∧ (Lit.int .i64 x.f4).wf = true ∧ (Lit.int .i64 x.f5).wf = true ∧ (Lit.int .i64 x.f6).wf = true)) :=
 Opens.iso (fun x : S100 => (x.f0, x.f1, x.f2, x.f3, x.f4, x.f5, x.f6)) (fun p => ⟨p.1, p.2.1, p.2.2.1, p.2.2.2.1, p.2.2.2.2.1, p.2.2.2.2.2.1, p.2.2.2.2.2.2⟩) (fun _ => rfl) (Opens.struct Tryd.underlying100 (by kernel_rfl) (OpensF.cons rfl (by kernel_rfl) (Opens.string Tryd.underlying9) (OpensF.cons rfl (by kernel_rfl) (Opens.string Tryd.underlying9) (OpensF.cons rfl (by kernel_rfl) (@Opens.int Tryd.prog 2 .i64 Tryd.underlying2) (OpensF.cons rfl (by kernel_rfl) (@Opens.int Tryd.prog 2 .i64 Tryd.underlying2) (OpensF.cons rfl (by kernel_rfl) (@Opens.int Tryd.prog 2 .i64 Tryd.underlying2) (OpensF.cons rfl (by kernel_rfl) (@Opens.int Tryd.prog 2 .i64 Tryd.underlying2) (OpensF.one rfl (by kernel_rfl) (@Opens.int Tryd.prog 2 .i64 Tryd.underlying2)))))))))
theorem opens39 : Opens Tryd.prog 39 k39 (fun x : S39 => ((x.f0.length ≤ maxLen ∧ ∀ z0_ ∈ x.f0, (z0_.f0.size ≤ maxLen ∧ z0_.f1.size ≤ maxLen ∧ (Lit.int .i64 z0_.f2).wf = true ∧ (Lit.int .i64 z0_.f3).wf = true ∧ (Lit.int .i64 z0_.f4).wf = true ∧ (Lit.int .i64 z0_.f5).wf = true ∧ (Lit.int .i64 z0_.f6).wf = true)))) :=
 Opens.iso (fun x : S39 => (x.f0)) (fun p => ⟨p⟩) (fun _ => rfl) (Opens.struct Tryd.underlying39 (by kernel_rfl) (OpensF.one rfl (by kernel_rfl) (Opens.slice Tryd.underlying37 (by kernel_rfl) opens100)))
theorem own : ownKnob Tryd.prog.godebug = none := by kernel_rfl
theorem laidOut : laidOutB Tryd.prog = true := by kernel_rfl
noncomputable def laidWorld (os : Os) : World := { World.holding Tryd.prog os ⟨#[], #[], []⟩ with heap := (((((World.holding Tryd.prog os ⟨#[], #[], []⟩).heap).modify 3 fun | .cells _ t frozen => .cells (Go.Proofs.YtejecjjimggjeaaDoorH.flatD Rows.laid_unicode_utf8_acceptRanges).toArray t frozen | o => o)).modify 2 fun | .cells _ t frozen => .cells (Go.Proofs.YtejecjjimggjeaaDoorH.flatD Rows.laid_unicode_utf8_first).toArray t frozen | o => o) }
set_option maxRecDepth 100000 in
theorem laid_met (os : Os) : laidMetH Tryd.prog Rows.fnExactChildrenRow.laid ((laidWorld os).forCall (fun _ _ => 0) ⟨#[], #[.agg #[.slice none 0 0], .string ByteArray.empty], []⟩).memory :=
 laidMet_of_run' 8 (by kernel_rfl) (by kernel_rfl)
set_option maxHeartbeats 8000000 in
set_option maxRecDepth 100000 in
theorem lifted (os : Os) (started : os.Started) (H : Type) (enc : TypeId × Value → H) (F : Stop.Interp) :
  ReturnsInHanded {} Tryd.checked os 5 .any ((OpenSpec.ofChange Rows.fnExactChildrenSpec).preRow enc Tryd.prog Tryd.f5 Rows.fnExactChildrenRow.domain false Rows.fnExactChildrenRow.laid) (((OpenSpec.ofChange Rows.fnExactChildrenSpec).at F).post enc Tryd.prog Tryd.f5 false true false false) := by
 refine returnsInHanded_of_row (C := Tryd.checked) (s := (OpenSpec.ofChange Rows.fnExactChildrenSpec)) own started (by kernel_rfl) Tryd.func5
  (witness_row_at (enc := enc) (C := Tryd.checked) false (laidWorld os) #[.agg #[.slice none 0 0], .string ByteArray.empty] rfl (by kernel_rfl) (by kernel_rfl) (by kernel_rfl) (OpenSpec.preRow_of_B rfl 8 (by kernel_rfl) (by kernel_rfl) (laid_met os))) ?_
 intro W base args ds gs before hval0 hW _ _ hsz0 hL hsh _
 have hval : ∀ (j : Nat) t v, Tryd.f5.params[j]? = some t → args[j]? = some v → Value.okWide Tryd.prog W .any base t v := hval0
 have hW' := hW
 obtain ⟨p, q, hA0, hV, rfl, hfz, hnd⟩ := hW
 have hA : DataW.TrodAll enc Tryd.prog W 0 (fun _ => true) true Tryd.f5.params.toList args.toList ds p := hA0
 rw [Tryd.params5] at hA hval
 have hGl : gs.length = 0 := trodVars_len hV
 obtain rfl : gs = [] := by
  match gs, hGl with | [], _ => rfl
 have hGMAX_ : Go.Proofs.YtejecjjimggjeaaDoorH.GFMAX W := cell_of_shapedOpen_int (P := Tryd.prog) (g := 1) (t := 3) (zero := #[.int .i64 0]) hsh (of_decide_eq_true (by kernel_rfl)) (by kernel_rfl) rfl (by kernel_rfl) (by kernel_rfl) Tryd.underlying3
 obtain ⟨v0, vs0, d0, ds0, p0, q0, hargs, rfl, rfl, h0, r0⟩ := trodAll_cons hA
 obtain ⟨v1, vs1, d1, ds1, p1, q1, rfl, rfl, rfl, h1, r1⟩ := trodAll_cons r0
 obtain ⟨rfl, rfl, rfl⟩ := trodAll_nil r1
 obtain rfl : args = #[v0, v1] := by cases args; simp_all
 have kk0 := h0
 have lt0 : ∀ x ∈ p0, x.block < W.heap.size := by obtain ⟨m, hm⟩ := kk0; exact DataW.trod_lt m _ _ _ hm
 obtain ⟨cs0, rfl, hs0⟩ := okWide_struct Tryd.underlying39 (hval 0 39 v0 rfl rfl)
 obtain ⟨fuel0, hf0⟩ := h0
 obtain ⟨x0, hk0, hw0⟩ := opens39 enc W 0 (fun _ => true) true fuel0 _ _ hf0
 obtain ⟨A1_, c1_, hcs0, hc1_, hr1_⟩ := hk0
 obtain rfl : cs0 = #[.slice A1_ x0.f0.length c1_] := by apply Array.ext'; simpa [Value.cells] using hcs0
 have kk1 := h1
 have lt1 : ∀ x ∈ p1, x.block < W.heap.size := by obtain ⟨m, hm⟩ := kk1; exact DataW.trod_lt m _ _ _ hm
 obtain ⟨x1, rfl, rfl, rfl, hw1⟩ := open_string Tryd.underlying9 (hval 1 9 v1 rfl rfl) h1
 obtain ⟨k, hh⟩ := Pure.FnExactChildren x0.f0 x1 hw0 hw1
 clear hA0 hval0 hsz0
 refine (laws_FnExactChildren.calls k A1_ c1_ x0.f0 x1 true W hr1_ hc1_ hh hGMAX_).mono fun e W' ⟨he, bel⟩ => ?_
 subst he
 exact ⟨_, rfl, _, _, _, [], _, q, hW', trodAll_mk1 (shut_bool Tryd.underlying4 _), (trodAll_cons_mk (Below.trod laidOut (by kernel_rfl) (of_decide_eq_true (by kernel_rfl)) kk0 bel lt0) (trodAll_cons_mk (Below.trod laidOut (by kernel_rfl) (of_decide_eq_true (by kernel_rfl)) kk1 bel lt1) trodAll_mk0)), Below.trodVars laidOut bel (by kernel_rfl) hV, bel.frame _, fun h => by cases h⟩
theorem over : Rows.fnExactChildrenRow.holds Tryd.pinned (OpenSpec.ofChange Rows.fnExactChildrenSpec) :=
 OpenClaim.holds_of_cond 5 Tryd.f5 rfl rfl rfl rfl rfl rfl rfl ⟨rfl, rfl, rfl, rfl, rfl⟩ rfl rfl rfl rfl rfl (by kernel_rfl) Tryd.func5 (by kernel_rfl)
  (of_decide_eq_true (by kernel_rfl)) (by unfold Func.isWrapper; first | (rw [if_pos (by decide +kernel)]; kernel_rfl) | (rw [if_neg (by decide +kernel)]; exact ⟨rfl, rfl⟩))
  (fun os started H enc _ F0 => by rw [OpenClaim.pre_eq_preRow]; exact lifted os started H enc F0)
theorem card : Rows.FnExactChildrenCardSaid :=
 Claim7.holds_tied_plain_at .later [] [.data, .pinned] true (true, "7eac08beafe4578f115470f8e3fee0b3433b76e3cd2f3cfd95b4b8f75153eaa9") true over (fun _ h => by cases h) (by kernel_rfl) (fun _ h => by cases h) fnExactChildren_row_tie rfl ⟨rfl, rfl⟩ (by kernel_rfl) rfl
  (fun f fn hf hfn => by
   obtain rfl : f = 5 := Option.some.inj ((show Tryd.prog.funcNamed "loop.example/s01594/laws.FnExactChildren" = some 5 by kernel_rfl).symm.trans hf) |>.symm
   obtain rfl : fn = Tryd.f5 := (Option.some.inj (Tryd.func5.symm.trans hfn)).symm
   refine ⟨by kernel_rfl, fun j t ht => ?_⟩
   have h_ : t ∈ Tryd.f5.params.toList := Array.mem_toList_iff.2 (Array.mem_of_getElem? ht)
   have ha_ : Tryd.f5.params.toList.all (fun t => Tryd.prog.wantsStandIn t == false) = true := by kernel_rfl
   exact (show Tryd.prog.wantsStandIn t = false by simpa using (List.all_eq_true.1 ha_ t h_)))
  (by kernel_rfl)
end Go.Proofs.YtejecjjimggjeaaDoor.fnExactChildren
namespace Go.Proofs.YtejecjjimggjeaaDoor
/-- The card, under a short name, for the claim. -/
theorem fnExactChildren_holds : Rows.FnExactChildrenCardSaid := fnExactChildren.card
end Go.Proofs.YtejecjjimggjeaaDoor
