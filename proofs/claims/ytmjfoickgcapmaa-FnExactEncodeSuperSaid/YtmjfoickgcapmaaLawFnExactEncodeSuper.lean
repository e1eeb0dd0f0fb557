/- Written by give.py, a program of this session, that runs the kit's print and lays contracts proved by hand beside it. -/
import Derived.Test.YtmjfoickgcapmaaRows
import Derived.Test.YtmjfoickgcapmaaGFnExactEncodeSuperx3
import Derived.Test.YtmjfoickgcapmaaPureFnExactEncodeSuper
import Derived.Test.YtmjfoickgcapmaaHOpens
import Derived.WalkKit
import Derived.ProofKit
import Derived.OpenShut
import Derived.ShutString
import Derived.ChangeOld
import Derived.Below
import Derived.SizedLaws
namespace Go.Proofs.Ytmjfoickgcapmaa.fnExactEncodeSuper
open Go.ChangeShapes Go.WideShapes Go.ChangeAt Go.RowKit
open Go.ChangeMaps (open_string shut_string)
open Go.Proofs.Ytmjfoickgcapmaa.GFnExactEncodeSuper Go.Proofs.YtmjfoickgcapmaaH Go.Proofs.YtmjfoickgcapmaaW.PrintWords Go.Proofs.YtmjfoickgcapmaaW.PrintLast
set_option linter.unusedVariables false
theorem opens63 : Opens Try.prog 63 k63 (fun x : S63 => ((Lit.int .i64 x.f0).wf = true ∧ (Lit.int .i64 x.f1).wf = true ∧ (Lit.int .i64 x.f2).wf = true ∧ (Lit.int .i64 x.f3).wf = true ∧ (Lit.int .i64 x.f4).wf = true)) :=
  Opens.iso (fun x : S63 => (x.f0, x.f1, x.f2, x.f3, x.f4)) (fun p => ⟨p.1, p.2.1, p.2.2.1, p.2.2.2.1, p.2.2.2.2⟩) (fun _ => rfl) (Opens.struct Try.underlying63 (by kernel_rfl) (OpensF.cons rfl (by kernel_rfl) (@Opens.int Try.prog 2 .i64 Try.underlying2) (OpensF.cons rfl (by kernel_rfl) (@Opens.int Try.prog 2 .i64 Try.underlying2) (OpensF.cons rfl (by kernel_rfl) (@Opens.int Try.prog 2 .i64 Try.underlying2) (OpensF.cons rfl (by kernel_rfl) (@Opens.int Try.prog 2 .i64 Try.underlying2) (OpensF.one rfl (by kernel_rfl) (@Opens.int Try.prog 2 .i64 Try.underlying2)))))))
theorem own : ownKnob Try.prog.godebug = none := by kernel_rfl
theorem laidOut : laidOutB Try.prog = true := by kernel_rfl
set_option maxRecDepth 100000 in
theorem lifted (os : Os) (started : os.Started) (H : Type) (enc : TypeId × Value → H) :
    ReturnsInHanded {} Try.checked os 12 .any (Rows.fnExactEncodeSuperSpec.pre6 enc Try.prog Try.f12 Rows.fnExactEncodeSuperRow.domain false) (Rows.fnExactEncodeSuperSpec.post enc Try.prog Try.f12 false true false false) := by
  refine returnsInHanded_of_change_sized (C := Try.checked) own started (by kernel_rfl) Try.func12
    (ChangeSpec.witness6 (enc := enc) (C := Try.checked) false ⟨#[], #[.agg #[.int .i64 0, .int .i64 0, .int .i64 0, .int .i64 0, .int .i64 0]], []⟩ 8 (by kernel_rfl) (by kernel_rfl) (by kernel_rfl) (by kernel_rfl)) ?_
  intro W base args ds gs before hval0 hW hcnd hsz0 _
  have hval : ∀ (j : Nat) t v, Try.f12.params[j]? = some t → args[j]? = some v → Value.okWide Try.prog W .any base t v := hval0
  have hW' := hW
  obtain ⟨p, q, hA0, hV, rfl, hfz, hnd⟩ := hW
  have hA : DataW.TrodAll enc Try.prog W 0 (fun _ => true) true Try.f12.params.toList args.toList ds p := hA0
  rw [Try.params12] at hA hval
  obtain ⟨v0, vs0, d0, ds0, p0, q0, hargs, rfl, rfl, h0, r0⟩ := trodAll_cons hA
  obtain ⟨rfl, rfl, rfl⟩ := trodAll_nil r0
  obtain rfl : args = #[v0] := by cases args; simp_all
  obtain ⟨rfl, rfl⟩ := trodVars_none hV
  have kk0 := h0
  have lt0 : ∀ x ∈ p0, x.block < W.heap.size := by obtain ⟨m, hm⟩ := kk0; exact DataW.trod_lt m _ _ _ hm
  obtain ⟨cs0, rfl, hs0⟩ := okWide_struct Try.underlying63 (hval 0 63 v0 rfl rfl)
  obtain ⟨fuel0, hf0⟩ := h0
  obtain ⟨x0, hk0, hw0⟩ := opens63 enc W 0 (fun _ => true) true fuel0 _ _ hf0
  obtain ⟨u1_, t1_, hcs0, rfl, ⟨u3_, t3_, rfl, rfl, ⟨u5_, t5_, rfl, rfl, ⟨u7_, t7_, rfl, rfl, rfl⟩⟩⟩⟩ := hk0
  obtain rfl : cs0 = #[.int .i64 x0.f0, .int .i64 x0.f1, .int .i64 x0.f2, .int .i64 x0.f3, .int .i64 x0.f4] := by apply Array.ext'; simpa [Value.cells] using hcs0
  obtain ⟨k, hh⟩ := Pure.FnExactEncodeSuper x0.f0 x0.f1 x0.f2 x0.f3 x0.f4 hw0.1 hw0.2.1 hw0.2.2.1 hw0.2.2.2.1 hw0.2.2.2.2
  clear hA0 hval0 hsz0
  refine (laws_FnExactEncodeSuper.calls k x0.f0 x0.f1 x0.f2 x0.f3 x0.f4 true W  hh).mono fun e W' ⟨he, bel⟩ => ?_
  subst he
  exact ⟨_, rfl, _, _, _, [], _, [], hW', trodAll_mk1 (shut_bool Try.underlying4 _), (trodAll_cons_mk (Below.trod laidOut (by kernel_rfl) (of_decide_eq_true (by kernel_rfl)) kk0 bel lt0) trodAll_mk0), rfl, bel.frame _, fun h => by cases h⟩
theorem over : Rows.fnExactEncodeSuperRow.holds Try.pinned (OpenSpec.ofChange Rows.fnExactEncodeSuperSpec) :=
  OpenClaim.holds_of_wide 12 Try.f12 rfl rfl rfl rfl rfl rfl rfl ⟨rfl, rfl, rfl, rfl, rfl⟩ rfl rfl rfl rfl rfl (by kernel_rfl) Try.func12 (by kernel_rfl)
    (of_decide_eq_true (by kernel_rfl)) (by unfold Func.isWrapper; first | (rw [if_pos (by decide +kernel)]; kernel_rfl) | (rw [if_neg (by decide +kernel)]; exact ⟨rfl, rfl⟩))
    (fun os started H enc _ => lifted os started H enc)
theorem proved : Rows.FnExactEncodeSuperSaid := over
end Go.Proofs.Ytmjfoickgcapmaa.fnExactEncodeSuper
namespace Go.Proofs.Ytmjfoickgcapmaa
/-- The row, under a short name, for the claim. -/
theorem fnExactEncodeSuper_holds : Rows.FnExactEncodeSuperSaid := fnExactEncodeSuper.proved
end Go.Proofs.Ytmjfoickgcapmaa
