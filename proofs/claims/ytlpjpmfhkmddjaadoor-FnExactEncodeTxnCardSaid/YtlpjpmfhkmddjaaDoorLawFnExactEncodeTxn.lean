/- Written by give.py, a program of this session, that runs the kit's print and lays contracts proved by hand beside it. -/
import Derived.Test.YtlpjpmfhkmddjaaDoorRows
import Derived.Test.YtlpjpmfhkmddjaaDoorGFnExactEncodeTxnx19
import Derived.Test.YtlpjpmfhkmddjaaDoorPureFnExactEncodeTxn
import Derived.Test.YtlpjpmfhkmddjaaDoorHOpens
import Derived.Test.YtlpjpmfhkmddjaaDoorTie
import Derived.Test.YtlpjpmfhkmddjaaDoorCards
import Derived.WalkKit
import Derived.ProofKit
import Derived.OpenShut
import Derived.ShutString
import Derived.ChangeOld
import Derived.Below
import Derived.SizedLaws
import Derived.SevenTiedAt
import Derived.Deep.DeepHandedRow
import Derived.OpenVars
import Derived.LaidLaws
import Derived.Lib.LaidTab
import Derived.JoinedCond
import Derived.Shelf.Vars
import Derived.Test.YtlpjpmfhkmddjaaDoorHVars
namespace Go.Proofs.YtlpjpmfhkmddjaaDoor.fnExactEncodeTxn
open Go.ChangeShapes Go.WideShapes Go.ChangeAt Go.RowKit
open Go.ChangeMaps (open_string shut_string)
open Go.Proofs.YtlpjpmfhkmddjaaDoor.GFnExactEncodeTxn Go.Proofs.YtlpjpmfhkmddjaaDoorH Go.Proofs.YtlpjpmfhkmddjaaDoorW.PrintWords Go.Proofs.YtlpjpmfhkmddjaaDoorW.PrintLast
set_option linter.unusedVariables false
theorem opens85 : Opens Tryd.prog 85 k85 (fun x : S85 => (x.f0.size ≤ maxLen ∧ x.f1.size ≤ maxLen ∧ (Lit.int .i64 x.f2).wf = true ∧ (Lit.int .i64 x.f3).wf = true ∧ (Lit.int .i64 x.f4).wf = true ∧ (Lit.int .i64 x.f5).wf = true ∧ (Lit.int .i64 x.f6).wf = true)) :=
  Opens.iso (fun x : S85 => (x.f0, x.f1, x.f2, x.f3, x.f4, x.f5, x.f6)) (fun p => ⟨p.1, p.2.1, p.2.2.1, p.2.2.2.1, p.2.2.2.2.1, p.2.2.2.2.2.1, p.2.2.2.2.2.2⟩) (fun _ => rfl) (Opens.struct Tryd.underlying85 (by kernel_rfl) (OpensF.cons rfl (by kernel_rfl) (Opens.string Tryd.underlying9) (OpensF.cons rfl (by kernel_rfl) (Opens.string Tryd.underlying9) (OpensF.cons rfl (by kernel_rfl) (@Opens.int Tryd.prog 2 .i64 Tryd.underlying2) (OpensF.cons rfl (by kernel_rfl) (@Opens.int Tryd.prog 2 .i64 Tryd.underlying2) (OpensF.cons rfl (by kernel_rfl) (@Opens.int Tryd.prog 2 .i64 Tryd.underlying2) (OpensF.cons rfl (by kernel_rfl) (@Opens.int Tryd.prog 2 .i64 Tryd.underlying2) (OpensF.one rfl (by kernel_rfl) (@Opens.int Tryd.prog 2 .i64 Tryd.underlying2)))))))))
theorem opens90 : Opens Tryd.prog 90 k90 (fun x : S90 => (True ∧ (x.f1.f0.size ≤ maxLen ∧ x.f1.f1.size ≤ maxLen ∧ (Lit.int .i64 x.f1.f2).wf = true ∧ (Lit.int .i64 x.f1.f3).wf = true ∧ (Lit.int .i64 x.f1.f4).wf = true ∧ (Lit.int .i64 x.f1.f5).wf = true ∧ (Lit.int .i64 x.f1.f6).wf = true))) :=
  Opens.iso (fun x : S90 => (x.f0, x.f1)) (fun p => ⟨p.1, p.2⟩) (fun _ => rfl) (Opens.struct Tryd.underlying90 (by kernel_rfl) (OpensF.cons rfl (by kernel_rfl) (Opens.bool Tryd.underlying4) (OpensF.one rfl (by kernel_rfl) opens85)))
theorem opens36 : Opens Tryd.prog 36 k36 (fun x : S36 => ((Lit.int .i64 x.f0).wf = true ∧ (x.f1.length ≤ maxLen ∧ ∀ z0_ ∈ x.f1, (True ∧ (z0_.f1.f0.size ≤ maxLen ∧ z0_.f1.f1.size ≤ maxLen ∧ (Lit.int .i64 z0_.f1.f2).wf = true ∧ (Lit.int .i64 z0_.f1.f3).wf = true ∧ (Lit.int .i64 z0_.f1.f4).wf = true ∧ (Lit.int .i64 z0_.f1.f5).wf = true ∧ (Lit.int .i64 z0_.f1.f6).wf = true))))) :=
  Opens.iso (fun x : S36 => (x.f0, x.f1)) (fun p => ⟨p.1, p.2⟩) (fun _ => rfl) (Opens.struct Tryd.underlying36 (by kernel_rfl) (OpensF.cons rfl (by kernel_rfl) (@Opens.int Tryd.prog 2 .i64 Tryd.underlying2) (OpensF.one rfl (by kernel_rfl) (Opens.slice Tryd.underlying34 (by kernel_rfl) opens90))))
theorem own : ownKnob Tryd.prog.godebug = none := by kernel_rfl
theorem laidOut : laidOutB Tryd.prog = true := by kernel_rfl
noncomputable def laidWorld (os : Os) : World := { World.holding Tryd.prog os ⟨#[], #[], []⟩ with heap := (((((World.holding Tryd.prog os ⟨#[], #[], []⟩).heap).modify 2 fun | .cells _ t frozen => .cells (Go.Proofs.YtlpjpmfhkmddjaaDoorH.flatD Rows.laid_unicode_utf8_acceptRanges).toArray t frozen | o => o)).modify 1 fun | .cells _ t frozen => .cells (Go.Proofs.YtlpjpmfhkmddjaaDoorH.flatD Rows.laid_unicode_utf8_first).toArray t frozen | o => o) }
set_option maxRecDepth 100000 in
theorem laid_met (os : Os) : laidMetH Tryd.prog Rows.fnExactEncodeTxnRow.laid ((laidWorld os).forCall (fun _ _ => 0) ⟨#[], #[.agg #[.int .i64 0, .slice none 0 0]], []⟩).memory :=
  laidMet_of_run' 8 (by kernel_rfl) (by kernel_rfl)
set_option maxHeartbeats 8000000 in
set_option maxRecDepth 100000 in
theorem lifted (os : Os) (started : os.Started) (H : Type) (enc : TypeId × Value → H) (F : Stop.Interp) :
    ReturnsInHanded {} Tryd.checked os 7 .any ((OpenSpec.ofChange Rows.fnExactEncodeTxnSpec).preRow enc Tryd.prog Tryd.f7 Rows.fnExactEncodeTxnRow.domain false Rows.fnExactEncodeTxnRow.laid) (((OpenSpec.ofChange Rows.fnExactEncodeTxnSpec).at F).post enc Tryd.prog Tryd.f7 false true false false) := by
  refine returnsInHanded_of_row (C := Tryd.checked) (s := (OpenSpec.ofChange Rows.fnExactEncodeTxnSpec)) own started (by kernel_rfl) Tryd.func7
    (witness_row_at (enc := enc) (C := Tryd.checked) false (laidWorld os) #[.agg #[.int .i64 0, .slice none 0 0]] rfl (by kernel_rfl) (by kernel_rfl) (by kernel_rfl) (OpenSpec.preRow_of_B rfl 8 (by kernel_rfl) (by kernel_rfl) (laid_met os))) ?_
  intro W base args ds gs before hval0 hW _ _ hsz0 hL hsh _
  have hval : ∀ (j : Nat) t v, Tryd.f7.params[j]? = some t → args[j]? = some v → Value.okWide Tryd.prog W .any base t v := hval0
  have hW' := hW
  obtain ⟨p, q, hA0, hV, rfl, hfz, hnd⟩ := hW
  have hA : DataW.TrodAll enc Tryd.prog W 0 (fun _ => true) true Tryd.f7.params.toList args.toList ds p := hA0
  rw [Tryd.params7] at hA hval
  have hGl : gs.length = 0 := trodVars_len hV
  obtain rfl : gs = [] := by
    match gs, hGl with | [], _ => rfl
  have hGMAX_ : Go.Proofs.YtlpjpmfhkmddjaaDoorH.GFMAX W := cell_of_shapedOpen_int (P := Tryd.prog) (g := 0) (t := 3) (zero := #[.int .i64 0]) hsh (of_decide_eq_true (by kernel_rfl)) (by kernel_rfl) rfl (by kernel_rfl) (by kernel_rfl) Tryd.underlying3
  obtain ⟨v0, vs0, d0, ds0, p0, q0, hargs, rfl, rfl, h0, r0⟩ := trodAll_cons hA
  obtain ⟨rfl, rfl, rfl⟩ := trodAll_nil r0
  obtain rfl : args = #[v0] := by cases args; simp_all
  have kk0 := h0
  have lt0 : ∀ x ∈ p0, x.block < W.heap.size := by obtain ⟨m, hm⟩ := kk0; exact DataW.trod_lt m _ _ _ hm
  obtain ⟨cs0, rfl, hs0⟩ := okWide_struct Tryd.underlying36 (hval 0 36 v0 rfl rfl)
  obtain ⟨fuel0, hf0⟩ := h0
  obtain ⟨x0, hk0, hw0⟩ := opens36 enc W 0 (fun _ => true) true fuel0 _ _ hf0
  obtain ⟨u1_, t1_, hcs0, rfl, ⟨A3_, c3_, rfl, hc3_, hr3_⟩⟩ := hk0
  obtain rfl : cs0 = #[.int .i64 x0.f0, .slice A3_ x0.f1.length c3_] := by apply Array.ext'; simpa [Value.cells] using hcs0
  obtain ⟨k, hh⟩ := Pure.FnExactEncodeTxn x0.f0 x0.f1 hw0.1 hw0.2
  clear hA0 hval0 hsz0
  refine (laws_FnExactEncodeTxn.calls k x0.f0 A3_ c3_ x0.f1 true W hr3_ hc3_ hh hGMAX_).mono fun e W' ⟨he, bel⟩ => ?_
  subst he
  exact ⟨_, rfl, _, _, _, [], _, q, hW', trodAll_mk1 (shut_bool Tryd.underlying4 _), (trodAll_cons_mk (Below.trod laidOut (by kernel_rfl) (of_decide_eq_true (by kernel_rfl)) kk0 bel lt0) trodAll_mk0), Below.trodVars laidOut bel (by kernel_rfl) hV, bel.frame _, fun h => by cases h⟩
theorem over : Rows.fnExactEncodeTxnRow.holds Tryd.pinned (OpenSpec.ofChange Rows.fnExactEncodeTxnSpec) :=
  OpenClaim.holds_of_cond 7 Tryd.f7 rfl rfl rfl rfl rfl rfl rfl ⟨rfl, rfl, rfl, rfl, rfl⟩ rfl rfl rfl rfl rfl (by kernel_rfl) Tryd.func7 (by kernel_rfl)
    (of_decide_eq_true (by kernel_rfl)) (by unfold Func.isWrapper; first | (rw [if_pos (by decide +kernel)]; kernel_rfl) | (rw [if_neg (by decide +kernel)]; exact ⟨rfl, rfl⟩))
    (fun os started H enc _ F0 => by rw [OpenClaim.pre_eq_preRow]; exact lifted os started H enc F0)
theorem card : Rows.FnExactEncodeTxnCardSaid :=
  Claim7.holds_tied_plain_at .later [] [.data, .pinned] true (true, "bd07aa5e47a98a50c690ad6323ffaec177a5c6e0929c44676fd1f8ff67ed2670") false over (fun _ h => by cases h) (by kernel_rfl) (fun _ h => by cases h) fnExactEncodeTxn_row_tie rfl ⟨rfl, rfl⟩ (by kernel_rfl) rfl
    (fun f fn hf hfn => by
      obtain rfl : f = 7 := Option.some.inj ((show Tryd.prog.funcNamed "loop.example/s01594/laws.FnExactEncodeTxn" = some 7 by kernel_rfl).symm.trans hf) |>.symm
      obtain rfl : fn = Tryd.f7 := (Option.some.inj (Tryd.func7.symm.trans hfn)).symm
      refine ⟨by kernel_rfl, fun j t ht => ?_⟩
      have h_ : t ∈ Tryd.f7.params.toList := Array.mem_toList_iff.2 (Array.mem_of_getElem? ht)
      have ha_ : Tryd.f7.params.toList.all (fun t => Tryd.prog.wantsStandIn t == false) = true := by kernel_rfl
      exact (show Tryd.prog.wantsStandIn t = false by simpa using (List.all_eq_true.1 ha_ t h_)))
    (by kernel_rfl)
end Go.Proofs.YtlpjpmfhkmddjaaDoor.fnExactEncodeTxn
namespace Go.Proofs.YtlpjpmfhkmddjaaDoor
/-- The card, under a short name, for the claim. -/
theorem fnExactEncodeTxn_holds : Rows.FnExactEncodeTxnCardSaid := fnExactEncodeTxn.card
end Go.Proofs.YtlpjpmfhkmddjaaDoor
