/- Written by give.py, a program of this session, that runs the kit's print and lays contracts proved by hand beside it. -/
import Derived.Test.YtfiojiokmkiflaaDoorRows
import Derived.Test.YtfiojiokmkiflaaDoorGFnExactApplyTxnx6
import Derived.Test.YtfiojiokmkiflaaDoorPureFnExactApplyTxn
import Derived.Test.YtfiojiokmkiflaaDoorHOpens
import Derived.Test.YtfiojiokmkiflaaDoorTie
import Derived.Test.YtfiojiokmkiflaaDoorCards
import Derived.WalkKit
import Derived.ProofKit
import Derived.OpenShut
import Derived.ShutString
import Derived.ChangeOld
import Derived.Below
import Derived.SizedLaws
import Derived.SevenTiedAt
import Derived.Deep.DeepHandedRow
import Derived.OpenVars
import Derived.LaidLaws
import Derived.Lib.LaidTab
import Derived.JoinedCond
import Derived.Shelf.Vars
import Derived.Test.YtfiojiokmkiflaaDoorHVars
namespace Go.Proofs.YtfiojiokmkiflaaDoor.fnExactApplyTxn
open Go.ChangeShapes Go.WideShapes Go.ChangeAt Go.RowKit
open Go.ChangeMaps (open_string shut_string)
open Go.Proofs.YtfiojiokmkiflaaDoor.GFnExactApplyTxn Go.Proofs.YtfiojiokmkiflaaDoorH Go.Proofs.YtfiojiokmkiflaaDoorW.PrintWords Go.Proofs.YtfiojiokmkiflaaDoorW.PrintLast
set_option linter.unusedVariables false
theorem opens171 : Opens Tryd.prog 171 k171 (fun x : S171 => (x.f0.size ≤ maxLen ∧ x.f1.size ≤ maxLen ∧ (Lit.int .i64 x.f2).wf = true ∧ (Lit.int .i64 x.f3).wf = true ∧ (Lit.int .i64 x.f4).wf = true ∧ (Lit.int .i64 x.f5).wf = true ∧ (Lit.int .i64 x.f6).wf = true)) :=
 Opens.iso (fun x : S171 => (x.f0, x.f1, x.f2, x.f3, x.f4, x.f5, x.f6)) (fun p => ⟨p.1, p.2.1, p.2.2.1, p.2.2.2.1, p.2.2.2.2.1, p.2.2.2.2.2.1, p.2.2.2.2.2.2⟩) (fun _ => rfl) (Opens.struct Tryd.underlying171 (by kernel_rfl) (OpensF.cons rfl (by kernel_rfl) (Opens.string Tryd.underlying9) (OpensF.cons rfl (by kernel_rfl) (Opens.string Tryd.underlying9) (OpensF.cons rfl (by kernel_rfl) (@Opens.int Tryd.prog 2 .i64 Tryd.underlying2) (OpensF.cons rfl (by kernel_rfl) (@Opens.int Tryd.prog 2 .i64 Tryd.underlying2) (OpensF.cons rfl (by kernel_rfl) (@Opens.int Tryd.prog 2 .i64 Tryd.underlying2) (OpensF.cons rfl (by kernel_rfl) (@Opens.int Tryd.prog 2 .i64 Tryd.underlying2) (OpensF.one rfl (by kernel_rfl) (@Opens.int Tryd.prog 2 .i64 Tryd.underlying2)))))))))
theorem opens45 : Opens Tryd.prog 45 k45 (fun x : S45 => ((x.f0.length ≤ maxLen ∧ ∀ z0_ ∈ x.f0, (z0_.f0.size ≤ maxLen ∧ z0_.f1.size ≤ maxLen ∧ (Lit.int .i64 z0_.f2).wf = true ∧ (Lit.int .i64 z0_.f3).wf = true ∧ (Lit.int .i64 z0_.f4).wf = true ∧ (Lit.int .i64 z0_.f5).wf = true ∧ (Lit.int .i64 z0_.f6).wf = true)))) :=
 Opens.iso (fun x : S45 => (x.f0)) (fun p => ⟨p⟩) (fun _ => rfl) (Opens.struct Tryd.underlying45 (by kernel_rfl) (OpensF.one rfl (by kernel_rfl) (Opens.slice Tryd.underlying43 (by kernel_rfl) opens171)))
theorem opens174 : Opens Tryd.prog 174 k174 (fun x : S174 => (True ∧ (x.f1.f0.size ≤ maxLen ∧ x.f1.f1.size ≤ maxLen ∧ (Lit.int .i64 x.f1.f2).wf = true ∧ (Lit.int .i64 x.f1.f3).wf = true ∧ (Lit.int .i64 x.f1.f4).wf = true ∧ (Lit.int .i64 x.f1.f5).wf = true ∧ (Lit.int .i64 x.f1.f6).wf = true))) :=
 Opens.iso (fun x : S174 => (x.f0, x.f1)) (fun p => ⟨p.1, p.2⟩) (fun _ => rfl) (Opens.struct Tryd.underlying174 (by kernel_rfl) (OpensF.cons rfl (by kernel_rfl) (Opens.bool Tryd.underlying4) (OpensF.one rfl (by kernel_rfl) opens171)))
theorem opens48 : Opens Tryd.prog 48 k48 (fun x : S48 => ((Lit.int .i64 x.f0).wf = true ∧ (x.f1.length ≤ maxLen ∧ ∀ z0_ ∈ x.f1, (True ∧ (z0_.f1.f0.size ≤ maxLen ∧ z0_.f1.f1.size ≤ maxLen ∧ (Lit.int .i64 z0_.f1.f2).wf = true ∧ (Lit.int .i64 z0_.f1.f3).wf = true ∧ (Lit.int .i64 z0_.f1.f4).wf = true ∧ (Lit.int .i64 z0_.f1.f5).wf = true ∧ (Lit.int .i64 z0_.f1.f6).wf = true))))) :=
 Opens.iso (fun x : S48 => (x.f0, x.f1)) (fun p => ⟨p.1, p.2⟩) (fun _ => rfl) (Opens.struct Tryd.underlying48 (by kernel_rfl) (OpensF.cons rfl (by kernel_rfl) (@Opens.int Tryd.prog 2 .i64 Tryd.underlying2) (OpensF.one rfl (by kernel_rfl) (Opens.slice Tryd.underlying46 (by kernel_rfl) opens174))))
theorem own : ownKnob Tryd.prog.godebug = none := by kernel_rfl
theorem laidOut : laidOutB Tryd.prog = true := by kernel_rfl
noncomputable def laidWorld (os : Os) : World := { World.holding Tryd.prog os ⟨#[], #[], []⟩ with heap := (((((World.holding Tryd.prog os ⟨#[], #[], []⟩).heap).modify 3 fun | .cells _ t frozen => .cells (Go.Proofs.YtfiojiokmkiflaaDoorH.flatD Rows.laid_unicode_utf8_acceptRanges).toArray t frozen | o => o)).modify 2 fun | .cells _ t frozen => .cells (Go.Proofs.YtfiojiokmkiflaaDoorH.flatD Rows.laid_unicode_utf8_first).toArray t frozen | o => o) }
set_option maxRecDepth 100000 in
theorem laid_met (os : Os) : laidMetH Tryd.prog Rows.fnExactApplyTxnRow.laid ((laidWorld os).forCall (fun _ _ => 0) ⟨#[], #[.agg #[.slice none 0 0], .agg #[.int .i64 0, .slice none 0 0]], []⟩).memory :=
 laidMet_of_run' 8 (by kernel_rfl) (by kernel_rfl)
set_option maxHeartbeats 8000000 in
set_option maxRecDepth 100000 in
theorem lifted (os : Os) (started : os.Started) (H : Type) (enc : TypeId × Value → H) (F : Stop.Interp) :
  ReturnsInHanded {} Tryd.checked os 4 .any ((OpenSpec.ofChange Rows.fnExactApplyTxnSpec).preRow enc Tryd.prog Tryd.f4 Rows.fnExactApplyTxnRow.domain false Rows.fnExactApplyTxnRow.laid) (((OpenSpec.ofChange Rows.fnExactApplyTxnSpec).at F).post enc Tryd.prog Tryd.f4 false true false false) := by
 refine returnsInHanded_of_row (C := Tryd.checked) (s := (OpenSpec.ofChange Rows.fnExactApplyTxnSpec)) own started (by kernel_rfl) Tryd.func4
  (witness_row_at (enc := enc) (C := Tryd.checked) false (laidWorld os) #[.agg #[.slice none 0 0], .agg #[.int .i64 0, .slice none 0 0]] rfl (by kernel_rfl) (by kernel_rfl) (by kernel_rfl) (OpenSpec.preRow_of_B rfl 8 (by kernel_rfl) (by kernel_rfl) (laid_met os))) ?_
 intro W base args ds gs before hval0 hW _ _ hsz0 hL hsh _
 have hval : ∀ (j : Nat) t v, Tryd.f4.params[j]? = some t → args[j]? = some v → Value.okWide Tryd.prog W .any base t v := hval0
 have hW' := hW
 obtain ⟨p, q, hA0, hV, rfl, hfz, hnd⟩ := hW
 have hA : DataW.TrodAll enc Tryd.prog W 0 (fun _ => true) true Tryd.f4.params.toList args.toList ds p := hA0
 rw [Tryd.params4] at hA hval
 have hGl : gs.length = 0 := trodVars_len hV
 obtain rfl : gs = [] := by
  match gs, hGl with | [], _ => rfl
 have hGMAX_ : Go.Proofs.YtfiojiokmkiflaaDoorH.GFMAX W := cell_of_shapedOpen_int (P := Tryd.prog) (g := 1) (t := 3) (zero := #[.int .i64 0]) hsh (of_decide_eq_true (by kernel_rfl)) (by kernel_rfl) rfl (by kernel_rfl) (by kernel_rfl) Tryd.underlying3
 obtain ⟨v0, vs0, d0, ds0, p0, q0, hargs, rfl, rfl, h0, r0⟩ := trodAll_cons hA
 obtain ⟨v1, vs1, d1, ds1, p1, q1, rfl, rfl, rfl, h1, r1⟩ := trodAll_cons r0
 obtain ⟨rfl, rfl, rfl⟩ := trodAll_nil r1
 obtain rfl : args = #[v0, v1] := by cases args; simp_all
 have kk0 := h0
 have lt0 : ∀ x ∈ p0, x.block < W.heap.size := by obtain ⟨m, hm⟩ := kk0; exact DataW.trod_lt m _ _ _ hm
 obtain ⟨cs0, rfl, hs0⟩ := okWide_struct Tryd.underlying45 (hval 0 45 v0 rfl rfl)
 obtain ⟨fuel0, hf0⟩ := h0
 obtain ⟨x0, hk0, hw0⟩ := opens45 enc W 0 (fun _ => true) true fuel0 _ _ hf0
 obtain ⟨A1_, c1_, hcs0, hc1_, hr1_⟩ := hk0
 obtain rfl : cs0 = #[.slice A1_ x0.f0.length c1_] := by apply Array.ext'; simpa [Value.cells] using hcs0
 have kk1 := h1
 have lt1 : ∀ x ∈ p1, x.block < W.heap.size := by obtain ⟨m, hm⟩ := kk1; exact DataW.trod_lt m _ _ _ hm
 obtain ⟨cs1, rfl, hs1⟩ := okWide_struct Tryd.underlying48 (hval 1 48 v1 rfl rfl)
 obtain ⟨fuel1, hf1⟩ := h1
 obtain ⟨x1, hk1, hw1⟩ := opens48 enc W 0 (fun _ => true) true fuel1 _ _ hf1
 obtain ⟨u2_, t2_, hcs1, rfl, ⟨A4_, c4_, rfl, hc4_, hr4_⟩⟩ := hk1
 obtain rfl : cs1 = #[.int .i64 x1.f0, .slice A4_ x1.f1.length c4_] := by apply Array.ext'; simpa [Value.cells] using hcs1
 obtain ⟨k, hh⟩ := Pure.FnExactApplyTxn x0.f0 x1.f0 x1.f1 hw0 hw1.1 hw1.2
 clear hA0 hval0 hsz0
 refine (laws_FnExactApplyTxn.calls k A1_ c1_ x0.f0 x1.f0 A4_ c4_ x1.f1 true W hr1_ hc1_ hr4_ hc4_ hh hGMAX_).mono fun e W' ⟨he, bel⟩ => ?_
 subst he
 exact ⟨_, rfl, _, _, _, [], _, q, hW', trodAll_mk1 (shut_bool Tryd.underlying4 _), (trodAll_cons_mk (Below.trod laidOut (by kernel_rfl) (of_decide_eq_true (by kernel_rfl)) kk0 bel lt0) (trodAll_cons_mk (Below.trod laidOut (by kernel_rfl) (of_decide_eq_true (by kernel_rfl)) kk1 bel lt1) trodAll_mk0)), Below.trodVars laidOut bel (by kernel_rfl) hV, bel.frame _, fun h => by cases h⟩
theorem over : Rows.fnExactApplyTxnRow.holds Tryd.pinned (OpenSpec.ofChange Rows.fnExactApplyTxnSpec) :=
 OpenClaim.holds_of_cond 4 Tryd.f4 rfl rfl rfl rfl rfl rfl rfl ⟨rfl, rfl, rfl, rfl, rfl⟩ rfl rfl rfl rfl rfl (by kernel_rfl) Tryd.func4 (by kernel_rfl)
  (of_decide_eq_true (by kernel_rfl)) (by unfold Func.isWrapper; first | (rw [if_pos (by decide +kernel)]; kernel_rfl) | (rw [if_neg (by decide +kernel)]; exact ⟨rfl, rfl⟩))
  (fun os started H enc _ F0 => by rw [OpenClaim.pre_eq_preRow]; exact lifted os started H enc F0)
theorem card : Rows.FnExactApplyTxnCardSaid :=
 Claim7.holds_tied_plain_at .later [] [.data, .pinned] true (true, "346a6c1912d92bd2335e1ac0e75f2109089652de92247e81187828d6cbe60109") true over (fun _ h => by cases h) (by kernel_rfl) (fun _ h => by cases h) fnExactApplyTxn_row_tie rfl ⟨rfl, rfl⟩ (by kernel_rfl) rfl
  (fun f fn hf hfn => by
   obtain rfl : f = 4 := Option.some.inj ((show Tryd.prog.funcNamed "loop.example/s01594/laws.FnExactApplyTxn" = some 4 by kernel_rfl).symm.trans hf) |>.symm
   obtain rfl : fn = Tryd.f4 := (Option.some.inj (Tryd.func4.symm.trans hfn)).symm
   refine ⟨by kernel_rfl, fun j t ht => ?_⟩
   have h_ : t ∈ Tryd.f4.params.toList := Array.mem_toList_iff.2 (Array.mem_of_getElem? ht)
   have ha_ : Tryd.f4.params.toList.all (fun t => Tryd.prog.wantsStandIn t == false) = true := by kernel_rfl
   exact (show Tryd.prog.wantsStandIn t = false by simpa using (List.all_eq_true.1 ha_ t h_)))
  (by kernel_rfl)
end Go.Proofs.YtfiojiokmkiflaaDoor.fnExactApplyTxn
namespace Go.Proofs.YtfiojiokmkiflaaDoor
/-- The card, under a short name, for the claim. -/
theorem fnExactApplyTxn_holds : Rows.FnExactApplyTxnCardSaid := fnExactApplyTxn.card
end Go.Proofs.YtfiojiokmkiflaaDoor
