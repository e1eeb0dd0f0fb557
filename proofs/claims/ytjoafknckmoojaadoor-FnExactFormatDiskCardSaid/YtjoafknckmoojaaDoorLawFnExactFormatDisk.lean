/- Written by give.py, a program of this session, that runs the kit's print and lays contracts proved by hand beside it. -/
import Derived.Test.YtjoafknckmoojaaDoorRows
import Derived.Test.YtjoafknckmoojaaDoorGFnExactFormatDiskx12
import Derived.Test.YtjoafknckmoojaaDoorPureFnExactFormatDisk
import Derived.Test.YtjoafknckmoojaaDoorHOpens
import Derived.Test.YtjoafknckmoojaaDoorTie
import Derived.Test.YtjoafknckmoojaaDoorCards
import Derived.WalkKit
import Derived.ProofKit
import Derived.OpenShut
import Derived.ShutString
import Derived.ChangeOld
import Derived.Below
import Derived.SizedLaws
import Derived.SevenTiedAt
import Derived.Deep.DeepHandedRow
import Derived.OpenVars
import Derived.LaidLaws
import Derived.Lib.LaidTab
import Derived.JoinedCond
import Derived.Shelf.Vars
import Derived.Test.YtjoafknckmoojaaDoorHVars
namespace Go.Proofs.YtjoafknckmoojaaDoor.fnExactFormatDisk
open Go.ChangeShapes Go.WideShapes Go.ChangeAt Go.RowKit
open Go.ChangeMaps (open_string shut_string)
open Go.Proofs.YtjoafknckmoojaaDoor.GFnExactFormatDisk Go.Proofs.YtjoafknckmoojaaDoorH Go.Proofs.YtjoafknckmoojaaDoorW.PrintWords Go.Proofs.YtjoafknckmoojaaDoorW.PrintLast
set_option linter.unusedVariables false
theorem opens44 : Opens Tryd.prog 44 k44 (fun x : S44 => ((Lit.int .i64 x.f0).wf = true ∧ (Lit.int .i64 x.f1).wf = true)) :=
 Opens.iso (fun x : S44 => (x.f0, x.f1)) (fun p => ⟨p.1, p.2⟩) (fun _ => rfl) (Opens.struct Tryd.underlying44 (by kernel_rfl) (OpensF.cons rfl (by kernel_rfl) (@Opens.int Tryd.prog 2 .i64 Tryd.underlying2) (OpensF.one rfl (by kernel_rfl) (@Opens.int Tryd.prog 2 .i64 Tryd.underlying2))))
theorem own : ownKnob Tryd.prog.godebug = none := by kernel_rfl
theorem laidOut : laidOutB Tryd.prog = true := by kernel_rfl
noncomputable def laidWorld (os : Os) : World := { World.holding Tryd.prog os ⟨#[], #[], []⟩ with heap := (((((((World.holding Tryd.prog os ⟨#[], #[], []⟩).heap).modify 3 fun | .cells _ t frozen => .cells (Go.Proofs.YtjoafknckmoojaaDoorH.flatD Rows.laid_unicode_utf8_acceptRanges).toArray t frozen | o => o)).modify 0 fun | .cells _ t frozen => .cells (Go.Proofs.YtjoafknckmoojaaDoorH.flatD Rows.laid_loop_example_s01594_impl_nibbles).toArray t frozen | o => o)).modify 2 fun | .cells _ t frozen => .cells (Go.Proofs.YtjoafknckmoojaaDoorH.flatD Rows.laid_unicode_utf8_first).toArray t frozen | o => o) }
set_option maxRecDepth 100000 in
theorem laid_met (os : Os) : laidMetH Tryd.prog Rows.fnExactFormatDiskRow.laid ((laidWorld os).forCall (fun _ _ => 0) ⟨#[], #[.agg #[.int .i64 0, .int .i64 0]], []⟩).memory :=
 laidMet_of_run' 8 (by kernel_rfl) (by kernel_rfl)
set_option maxHeartbeats 8000000 in
set_option maxRecDepth 100000 in
theorem lifted (os : Os) (started : os.Started) (H : Type) (enc : TypeId × Value → H) (F : Stop.Interp) :
  ReturnsInHanded {} Tryd.checked os 5 .any ((OpenSpec.ofChange Rows.fnExactFormatDiskSpec).preRow enc Tryd.prog Tryd.f5 Rows.fnExactFormatDiskRow.domain false Rows.fnExactFormatDiskRow.laid) (((OpenSpec.ofChange Rows.fnExactFormatDiskSpec).at F).post enc Tryd.prog Tryd.f5 false true false false) := by
 refine returnsInHanded_of_row (C := Tryd.checked) (s := (OpenSpec.ofChange Rows.fnExactFormatDiskSpec)) own started (by kernel_rfl) Tryd.func5
  (witness_row_at (enc := enc) (C := Tryd.checked) false (laidWorld os) #[.agg #[.int .i64 0, .int .i64 0]] rfl (by kernel_rfl) (by kernel_rfl) (by kernel_rfl) (OpenSpec.preRow_of_B rfl 8 (by kernel_rfl) (by kernel_rfl) (laid_met os))) ?_
 intro W base args ds gs before hval0 hW _ _ hsz0 hL hsh _
 have hval : ∀ (j : Nat) t v, Tryd.f5.params[j]? = some t → args[j]? = some v → Value.okWide Tryd.prog W .any base t v := hval0
 have hW' := hW
 obtain ⟨p, q, hA0, hV, rfl, hfz, hnd⟩ := hW
 have hA : DataW.TrodAll enc Tryd.prog W 0 (fun _ => true) true Tryd.f5.params.toList args.toList ds p := hA0
 rw [Tryd.params5] at hA hval
 have hGl : gs.length = 1 := trodVars_len hV
 obtain ⟨g0_, rfl⟩ : ∃ g0_, gs = [g0_] := by
  match gs, hGl with | [a0], _ => exact ⟨a0, rfl⟩
 have hGMAX_ : Go.Proofs.YtjoafknckmoojaaDoorH.GFMAX W := cell_of_shapedOpen_int (P := Tryd.prog) (g := 1) (t := 3) (zero := #[.int .i64 0]) hsh (of_decide_eq_true (by kernel_rfl)) (by kernel_rfl) rfl (by kernel_rfl) (by kernel_rfl) Tryd.underlying3
 have hGNIB_ : Go.Proofs.YtjoafknckmoojaaDoorH.GFNIB W := fun i hi => (Go.Lib.tabIs_of_head (P := Tryd.prog) (W := W) (g := 0) (k := .u32) (zs := Go.Proofs.YtjoafknckmoojaaDoorH.tabNIB) (by kernel_rfl) (by kernel_rfl) Tryd.underlying174 Tryd.underlying173 (by kernel_rfl) (by kernel_rfl) (Go.Proofs.YtjoafknckmoojaaDoorH.laidMet_tail (hL : laidMet Tryd.prog _ W))).cell (by kernel_rfl) i hi
 obtain ⟨v0, vs0, d0, ds0, p0, q0, hargs, rfl, rfl, h0, r0⟩ := trodAll_cons hA
 obtain ⟨rfl, rfl, rfl⟩ := trodAll_nil r0
 obtain rfl : args = #[v0] := by cases args; simp_all
 have kk0 := h0
 have lt0 : ∀ x ∈ p0, x.block < W.heap.size := by obtain ⟨m, hm⟩ := kk0; exact DataW.trod_lt m _ _ _ hm
 obtain ⟨cs0, rfl, hs0⟩ := okWide_struct Tryd.underlying44 (hval 0 44 v0 rfl rfl)
 obtain ⟨fuel0, hf0⟩ := h0
 obtain ⟨x0, hk0, hw0⟩ := opens44 enc W 0 (fun _ => true) true fuel0 _ _ hf0
 obtain ⟨u1_, t1_, hcs0, rfl, rfl⟩ := hk0
 obtain rfl : cs0 = #[.int .i64 x0.f0, .int .i64 x0.f1] := by apply Array.ext'; simpa [Value.cells] using hcs0
 obtain ⟨k, hh⟩ := Pure.FnExactFormatDisk x0.f0 x0.f1 hw0.1 hw0.2
 clear hA0 hval0 hsz0
 refine (laws_FnExactFormatDisk.calls k x0.f0 x0.f1 true W  hh hGMAX_ hGNIB_).mono fun e W' ⟨he, bel⟩ => ?_
 subst he
 exact ⟨_, rfl, _, _, _, [], _, q, hW', trodAll_mk1 (shut_bool Tryd.underlying4 _), (trodAll_cons_mk (Below.trod laidOut (by kernel_rfl) (of_decide_eq_true (by kernel_rfl)) kk0 bel lt0) trodAll_mk0), Below.trodVars laidOut bel (by kernel_rfl) hV, bel.frame _, fun h => by cases h⟩
theorem over : Rows.fnExactFormatDiskRow.holds Tryd.pinned (OpenSpec.ofChange Rows.fnExactFormatDiskSpec) :=
 OpenClaim.holds_of_cond 5 Tryd.f5 rfl rfl rfl rfl rfl rfl rfl ⟨rfl, rfl, rfl, rfl, rfl⟩ rfl rfl rfl rfl rfl (by kernel_rfl) Tryd.func5 (by kernel_rfl)
  (of_decide_eq_true (by kernel_rfl)) (by unfold Func.isWrapper; first | (rw [if_pos (by decide +kernel)]; kernel_rfl) | (rw [if_neg (by decide +kernel)]; exact ⟨rfl, rfl⟩))
  (fun os started H enc _ F0 => by rw [OpenClaim.pre_eq_preRow]; exact lifted os started H enc F0)
theorem card : Rows.FnExactFormatDiskCardSaid :=
 Claim7.holds_tied_plain_at .later [] [.data, .data, .pinned] true (true, "f8f99be4c3f27d399c6bbdec6a59a119b6d6485c644bf482fc2975ae71ba5d33") true over (fun _ h => by cases h) (by kernel_rfl) (fun _ h => by cases h) fnExactFormatDisk_row_tie rfl ⟨rfl, rfl⟩ (by kernel_rfl) rfl
  (fun f fn hf hfn => by
   obtain rfl : f = 5 := Option.some.inj ((show Tryd.prog.funcNamed "loop.example/s01594/laws.FnExactFormatDisk" = some 5 by kernel_rfl).symm.trans hf) |>.symm
   obtain rfl : fn = Tryd.f5 := (Option.some.inj (Tryd.func5.symm.trans hfn)).symm
   refine ⟨by kernel_rfl, fun j t ht => ?_⟩
   have h_ : t ∈ Tryd.f5.params.toList := Array.mem_toList_iff.2 (Array.mem_of_getElem? ht)
   have ha_ : Tryd.f5.params.toList.all (fun t => Tryd.prog.wantsStandIn t == false) = true := by kernel_rfl
   exact (show Tryd.prog.wantsStandIn t = false by simpa using (List.all_eq_true.1 ha_ t h_)))
  (by kernel_rfl)
end Go.Proofs.YtjoafknckmoojaaDoor.fnExactFormatDisk
namespace Go.Proofs.YtjoafknckmoojaaDoor
/-- The card, under a short name, for the claim. -/
theorem fnExactFormatDisk_holds : Rows.FnExactFormatDiskCardSaid := fnExactFormatDisk.card
end Go.Proofs.YtjoafknckmoojaaDoor
