/- Written by give.py, a program of this session, that runs the kit's print and lays contracts proved by hand beside it. -/
import Derived.Test.YtlpjpmfhkmddjaaRows
import Derived.Test.YtlpjpmfhkmddjaaGFnExactDiskSyncx7
import Derived.Test.YtlpjpmfhkmddjaaPureFnExactDiskSync
import Derived.Test.YtlpjpmfhkmddjaaHOpens
import Derived.WalkKit
import Derived.ProofKit
import Derived.OpenShut
import Derived.ShutString
import Derived.ChangeOld
import Derived.Below
import Derived.SizedLaws
namespace Go.Proofs.Ytlpjpmfhkmddjaa.fnExactDiskSync
open Go.ChangeShapes Go.WideShapes Go.ChangeAt Go.RowKit
open Go.ChangeMaps (open_string shut_string)
open Go.Proofs.Ytlpjpmfhkmddjaa.GFnExactDiskSync Go.Proofs.YtlpjpmfhkmddjaaH Go.Proofs.YtlpjpmfhkmddjaaW.PrintWords Go.Proofs.YtlpjpmfhkmddjaaW.PrintLast
set_option linter.unusedVariables false
theorem opens111 : Opens Try.prog 111 k111 (fun x : S111 => ((Lit.int .i64 x.f0).wf = true ∧ (x.f1.length ≤ maxLen ∧ ∀ z0_ ∈ x.f1, (Lit.int .u8 z0_).wf = true))) :=
  Opens.iso (fun x : S111 => (x.f0, x.f1)) (fun p => ⟨p.1, p.2⟩) (fun _ => rfl) (Opens.struct Try.underlying111 (by kernel_rfl) (OpensF.cons rfl (by kernel_rfl) (@Opens.int Try.prog 2 .i64 Try.underlying2) (OpensF.one rfl (by kernel_rfl) (Opens.slice Try.underlying22 (by kernel_rfl) (@Opens.int Try.prog 5 .u8 Try.underlying5)))))
theorem opens36 : Opens Try.prog 36 k36 (fun x : S36 => ((x.f0.length ≤ maxLen ∧ ∀ z0_ ∈ x.f0, (Lit.int .u8 z0_).wf = true) ∧ (x.f1.length ≤ maxLen ∧ ∀ z0_ ∈ x.f1, ((Lit.int .i64 z0_.f0).wf = true ∧ (z0_.f1.length ≤ maxLen ∧ ∀ z1_ ∈ z0_.f1, (Lit.int .u8 z1_).wf = true))))) :=
  Opens.iso (fun x : S36 => (x.f0, x.f1)) (fun p => ⟨p.1, p.2⟩) (fun _ => rfl) (Opens.struct Try.underlying36 (by kernel_rfl) (OpensF.cons rfl (by kernel_rfl) (Opens.slice Try.underlying22 (by kernel_rfl) (@Opens.int Try.prog 5 .u8 Try.underlying5)) (OpensF.one rfl (by kernel_rfl) (Opens.slice Try.underlying34 (by kernel_rfl) opens111))))
theorem own : ownKnob Try.prog.godebug = none := by kernel_rfl
theorem laidOut : laidOutB Try.prog = true := by kernel_rfl
set_option maxHeartbeats 8000000 in
set_option maxRecDepth 100000 in
theorem lifted (os : Os) (started : os.Started) (H : Type) (enc : TypeId × Value → H) :
    ReturnsInHanded {} Try.checked os 7 .any (Rows.fnExactDiskSyncSpec.pre6 enc Try.prog Try.f7 Rows.fnExactDiskSyncRow.domain false) (Rows.fnExactDiskSyncSpec.post enc Try.prog Try.f7 false true false false) := by
  refine returnsInHanded_of_change_sized (C := Try.checked) own started (by kernel_rfl) Try.func7
    (ChangeSpec.witness6 (enc := enc) (C := Try.checked) false ⟨#[], #[.agg #[.slice none 0 0, .slice none 0 0]], []⟩ 8 (by kernel_rfl) (by kernel_rfl) (by kernel_rfl) (by kernel_rfl)) ?_
  intro W base args ds gs before hval0 hW hcnd hsz0 _
  have hval : ∀ (j : Nat) t v, Try.f7.params[j]? = some t → args[j]? = some v → Value.okWide Try.prog W .any base t v := hval0
  have hW' := hW
  obtain ⟨p, q, hA0, hV, rfl, hfz, hnd⟩ := hW
  have hA : DataW.TrodAll enc Try.prog W 0 (fun _ => true) true Try.f7.params.toList args.toList ds p := hA0
  rw [Try.params7] at hA hval
  obtain ⟨v0, vs0, d0, ds0, p0, q0, hargs, rfl, rfl, h0, r0⟩ := trodAll_cons hA
  obtain ⟨rfl, rfl, rfl⟩ := trodAll_nil r0
  obtain rfl : args = #[v0] := by cases args; simp_all
  obtain ⟨rfl, rfl⟩ := trodVars_none hV
  have kk0 := h0
  have lt0 : ∀ x ∈ p0, x.block < W.heap.size := by obtain ⟨m, hm⟩ := kk0; exact DataW.trod_lt m _ _ _ hm
  obtain ⟨cs0, rfl, hs0⟩ := okWide_struct Try.underlying36 (hval 0 36 v0 rfl rfl)
  obtain ⟨fuel0, hf0⟩ := h0
  obtain ⟨x0, hk0, hw0⟩ := opens36 enc W 0 (fun _ => true) true fuel0 _ _ hf0
  obtain ⟨u1_, t1_, hcs0, ⟨A2_, c2_, rfl, hc2_, hr2_⟩, ⟨A3_, c3_, rfl, hc3_, hr3_⟩⟩ := hk0
  obtain rfl : cs0 = #[.slice A2_ x0.f0.length c2_, .slice A3_ x0.f1.length c3_] := by apply Array.ext'; simpa [Value.cells] using hcs0
  obtain ⟨k, hh⟩ := Pure.FnExactDiskSync x0.f0 x0.f1 hw0.1 hw0.2
  clear hA0 hval0 hsz0
  refine (laws_FnExactDiskSync.calls k A2_ c2_ x0.f0 A3_ c3_ x0.f1 true W hr2_ hc2_ hr3_ hc3_ hh).mono fun e W' ⟨he, bel⟩ => ?_
  subst he
  exact ⟨_, rfl, _, _, _, [], _, [], hW', trodAll_mk1 (shut_bool Try.underlying4 _), (trodAll_cons_mk (Below.trod laidOut (by kernel_rfl) (of_decide_eq_true (by kernel_rfl)) kk0 bel lt0) trodAll_mk0), rfl, bel.frame _, fun h => by cases h⟩
theorem over : Rows.fnExactDiskSyncRow.holds Try.pinned (OpenSpec.ofChange Rows.fnExactDiskSyncSpec) :=
  OpenClaim.holds_of_wide 7 Try.f7 rfl rfl rfl rfl rfl rfl rfl ⟨rfl, rfl, rfl, rfl, rfl⟩ rfl rfl rfl rfl rfl (by kernel_rfl) Try.func7 (by kernel_rfl)
    (of_decide_eq_true (by kernel_rfl)) (by unfold Func.isWrapper; first | (rw [if_pos (by decide +kernel)]; kernel_rfl) | (rw [if_neg (by decide +kernel)]; exact ⟨rfl, rfl⟩))
    (fun os started H enc _ => lifted os started H enc)
theorem proved : Rows.FnExactDiskSyncSaid := over
end Go.Proofs.Ytlpjpmfhkmddjaa.fnExactDiskSync
namespace Go.Proofs.Ytlpjpmfhkmddjaa
/-- The row, under a short name, for the claim. -/
theorem fnExactDiskSync_holds : Rows.FnExactDiskSyncSaid := fnExactDiskSync.proved
end Go.Proofs.Ytlpjpmfhkmddjaa
