/- Written by give.py, a program of this session, that runs the kit's print and lays contracts proved by hand beside it. -/
import Derived.Test.YtlpjpmfhkmddjaaRows
import Derived.Test.YtlpjpmfhkmddjaaGFnExactAreaBytesx14
import Derived.Test.YtlpjpmfhkmddjaaPureFnExactAreaBytes
import Derived.Test.YtlpjpmfhkmddjaaHOpens
import Derived.WalkKit
import Derived.ProofKit
import Derived.OpenShut
import Derived.ShutString
import Derived.ChangeOld
import Derived.Below
import Derived.SizedLaws
namespace Go.Proofs.Ytlpjpmfhkmddjaa.fnExactAreaBytes
open Go.ChangeShapes Go.WideShapes Go.ChangeAt Go.RowKit
open Go.ChangeMaps (open_string shut_string)
open Go.Proofs.Ytlpjpmfhkmddjaa.GFnExactAreaBytes Go.Proofs.YtlpjpmfhkmddjaaH Go.Proofs.YtlpjpmfhkmddjaaW.PrintWords Go.Proofs.YtlpjpmfhkmddjaaW.PrintLast
set_option linter.unusedVariables false
theorem opens111 : Opens Try.prog 111 k111 (fun x : S111 => ((Lit.int .i64 x.f0).wf = true ∧ (x.f1.length ≤ maxLen ∧ ∀ z0_ ∈ x.f1, (Lit.int .u8 z0_).wf = true))) :=
  Opens.iso (fun x : S111 => (x.f0, x.f1)) (fun p => ⟨p.1, p.2⟩) (fun _ => rfl) (Opens.struct Try.underlying111 (by kernel_rfl) (OpensF.cons rfl (by kernel_rfl) (@Opens.int Try.prog 2 .i64 Try.underlying2) (OpensF.one rfl (by kernel_rfl) (Opens.slice Try.underlying22 (by kernel_rfl) (@Opens.int Try.prog 5 .u8 Try.underlying5)))))
theorem opens36 : Opens Try.prog 36 k36 (fun x : S36 => ((x.f0.length ≤ maxLen ∧ ∀ z0_ ∈ x.f0, (Lit.int .u8 z0_).wf = true) ∧ (x.f1.length ≤ maxLen ∧ ∀ z0_ ∈ x.f1, ((Lit.int .i64 z0_.f0).wf = true ∧ (z0_.f1.length ≤ maxLen ∧ ∀ z1_ ∈ z0_.f1, (Lit.int .u8 z1_).wf = true))))) :=
  Opens.iso (fun x : S36 => (x.f0, x.f1)) (fun p => ⟨p.1, p.2⟩) (fun _ => rfl) (Opens.struct Try.underlying36 (by kernel_rfl) (OpensF.cons rfl (by kernel_rfl) (Opens.slice Try.underlying22 (by kernel_rfl) (@Opens.int Try.prog 5 .u8 Try.underlying5)) (OpensF.one rfl (by kernel_rfl) (Opens.slice Try.underlying34 (by kernel_rfl) opens111))))
theorem opens52 : Opens Try.prog 52 k52 (fun x : S52 => ((Lit.int .i64 x.f0).wf = true ∧ (Lit.int .i64 x.f1).wf = true)) :=
  Opens.iso (fun x : S52 => (x.f0, x.f1)) (fun p => ⟨p.1, p.2⟩) (fun _ => rfl) (Opens.struct Try.underlying52 (by kernel_rfl) (OpensF.cons rfl (by kernel_rfl) (@Opens.int Try.prog 2 .i64 Try.underlying2) (OpensF.one rfl (by kernel_rfl) (@Opens.int Try.prog 2 .i64 Try.underlying2))))
theorem own : ownKnob Try.prog.godebug = none := by kernel_rfl
theorem laidOut : laidOutB Try.prog = true := by kernel_rfl
set_option maxHeartbeats 8000000 in
set_option maxRecDepth 100000 in
theorem lifted (os : Os) (started : os.Started) (H : Type) (enc : TypeId × Value → H) :
    ReturnsInHanded {} Try.checked os 8 .any (Rows.fnExactAreaBytesSpec.pre6 enc Try.prog Try.f8 Rows.fnExactAreaBytesRow.domain false) (Rows.fnExactAreaBytesSpec.post enc Try.prog Try.f8 false true false false) := by
  refine returnsInHanded_of_change_sized (C := Try.checked) own started (by kernel_rfl) Try.func8
    (ChangeSpec.witness6 (enc := enc) (C := Try.checked) false ⟨#[], #[.agg #[.slice none 0 0, .slice none 0 0], .agg #[.int .i64 0, .int .i64 0], .int .i64 0, .bool false], []⟩ 8 (by kernel_rfl) (by kernel_rfl) (by kernel_rfl) (by kernel_rfl)) ?_
  intro W base args ds gs before hval0 hW hcnd hsz0 _
  have hval : ∀ (j : Nat) t v, Try.f8.params[j]? = some t → args[j]? = some v → Value.okWide Try.prog W .any base t v := hval0
  have hW' := hW
  obtain ⟨p, q, hA0, hV, rfl, hfz, hnd⟩ := hW
  have hA : DataW.TrodAll enc Try.prog W 0 (fun _ => true) true Try.f8.params.toList args.toList ds p := hA0
  rw [Try.params8] at hA hval
  obtain ⟨v0, vs0, d0, ds0, p0, q0, hargs, rfl, rfl, h0, r0⟩ := trodAll_cons hA
  obtain ⟨v1, vs1, d1, ds1, p1, q1, rfl, rfl, rfl, h1, r1⟩ := trodAll_cons r0
  obtain ⟨v2, vs2, d2, ds2, p2, q2, rfl, rfl, rfl, h2, r2⟩ := trodAll_cons r1
  obtain ⟨v3, vs3, d3, ds3, p3, q3, rfl, rfl, rfl, h3, r3⟩ := trodAll_cons r2
  obtain ⟨rfl, rfl, rfl⟩ := trodAll_nil r3
  obtain rfl : args = #[v0, v1, v2, v3] := by cases args; simp_all
  obtain ⟨rfl, rfl⟩ := trodVars_none hV
  have kk0 := h0
  have lt0 : ∀ x ∈ p0, x.block < W.heap.size := by obtain ⟨m, hm⟩ := kk0; exact DataW.trod_lt m _ _ _ hm
  obtain ⟨cs0, rfl, hs0⟩ := okWide_struct Try.underlying36 (hval 0 36 v0 rfl rfl)
  obtain ⟨fuel0, hf0⟩ := h0
  obtain ⟨x0, hk0, hw0⟩ := opens36 enc W 0 (fun _ => true) true fuel0 _ _ hf0
  obtain ⟨u1_, t1_, hcs0, ⟨A2_, c2_, rfl, hc2_, hr2_⟩, ⟨A3_, c3_, rfl, hc3_, hr3_⟩⟩ := hk0
  obtain rfl : cs0 = #[.slice A2_ x0.f0.length c2_, .slice A3_ x0.f1.length c3_] := by apply Array.ext'; simpa [Value.cells] using hcs0
  have kk1 := h1
  have lt1 : ∀ x ∈ p1, x.block < W.heap.size := by obtain ⟨m, hm⟩ := kk1; exact DataW.trod_lt m _ _ _ hm
  obtain ⟨cs1, rfl, hs1⟩ := okWide_struct Try.underlying52 (hval 1 52 v1 rfl rfl)
  obtain ⟨fuel1, hf1⟩ := h1
  obtain ⟨x1, hk1, hw1⟩ := opens52 enc W 0 (fun _ => true) true fuel1 _ _ hf1
  obtain ⟨u4_, t4_, hcs1, rfl, rfl⟩ := hk1
  obtain rfl : cs1 = #[.int .i64 x1.f0, .int .i64 x1.f1] := by apply Array.ext'; simpa [Value.cells] using hcs1
  have kk2 := h2
  have lt2 : ∀ x ∈ p2, x.block < W.heap.size := by obtain ⟨m, hm⟩ := kk2; exact DataW.trod_lt m _ _ _ hm
  obtain ⟨x2, rfl, rfl, rfl, hw2⟩ := open_int Try.underlying2 (hval 2 2 v2 rfl rfl) h2
  have kk3 := h3
  have lt3 : ∀ x ∈ p3, x.block < W.heap.size := by obtain ⟨m, hm⟩ := kk3; exact DataW.trod_lt m _ _ _ hm
  obtain ⟨x3, rfl, rfl, rfl⟩ := open_bool Try.underlying4 (hval 3 4 v3 rfl rfl) h3
  obtain ⟨k, hh⟩ := Pure.FnExactAreaBytes x0.f0 x0.f1 x1.f0 x1.f1 x2 x3 hw0.1 hw0.2 hw1.1 hw1.2 hw2
  clear hA0 hval0 hsz0
  refine (laws_FnExactAreaBytes.calls k A2_ c2_ x0.f0 A3_ c3_ x0.f1 x1.f0 x1.f1 x2 x3 true W hr2_ hc2_ hr3_ hc3_ hh).mono fun e W' ⟨he, bel⟩ => ?_
  subst he
  exact ⟨_, rfl, _, _, _, [], _, [], hW', trodAll_mk1 (shut_bool Try.underlying4 _), (trodAll_cons_mk (Below.trod laidOut (by kernel_rfl) (of_decide_eq_true (by kernel_rfl)) kk0 bel lt0) (trodAll_cons_mk (Below.trod laidOut (by kernel_rfl) (of_decide_eq_true (by kernel_rfl)) kk1 bel lt1) (trodAll_cons_mk (Below.trod laidOut (by kernel_rfl) (of_decide_eq_true (by kernel_rfl)) kk2 bel lt2) (trodAll_cons_mk (Below.trod laidOut (by kernel_rfl) (of_decide_eq_true (by kernel_rfl)) kk3 bel lt3) trodAll_mk0)))), rfl, bel.frame _, fun h => by cases h⟩
theorem over : Rows.fnExactAreaBytesRow.holds Try.pinned (OpenSpec.ofChange Rows.fnExactAreaBytesSpec) :=
  OpenClaim.holds_of_wide 8 Try.f8 rfl rfl rfl rfl rfl rfl rfl ⟨rfl, rfl, rfl, rfl, rfl⟩ rfl rfl rfl rfl rfl (by kernel_rfl) Try.func8 (by kernel_rfl)
    (of_decide_eq_true (by kernel_rfl)) (by unfold Func.isWrapper; first | (rw [if_pos (by decide +kernel)]; kernel_rfl) | (rw [if_neg (by decide +kernel)]; exact ⟨rfl, rfl⟩))
    (fun os started H enc _ => lifted os started H enc)
theorem proved : Rows.FnExactAreaBytesSaid := over
end Go.Proofs.Ytlpjpmfhkmddjaa.fnExactAreaBytes
namespace Go.Proofs.Ytlpjpmfhkmddjaa
/-- The row, under a short name, for the claim. -/
theorem fnExactAreaBytes_holds : Rows.FnExactAreaBytesSaid := fnExactAreaBytes.proved
end Go.Proofs.Ytlpjpmfhkmddjaa
