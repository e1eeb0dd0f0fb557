/- Written by give.py, a program of this session, that runs the kit's print and lays contracts proved by hand beside it. -/
import Derived.Test.YtfiojiokmkiflaaDoorRows
import Derived.Test.YtfiojiokmkiflaaDoorGFnExactParseLinex6
import Derived.Test.YtfiojiokmkiflaaDoorPureFnExactParseLine
import Derived.Test.YtfiojiokmkiflaaDoorHOpens
import Derived.Test.YtfiojiokmkiflaaDoorTie
import Derived.Test.YtfiojiokmkiflaaDoorCards
import Derived.WalkKit
import Derived.ProofKit
import Derived.OpenShut
import Derived.ShutString
import Derived.ChangeOld
import Derived.Below
import Derived.SizedLaws
import Derived.SevenTiedAt
import Derived.Deep.DeepHandedRow
import Derived.OpenVars
import Derived.LaidLaws
import Derived.Lib.LaidTab
import Derived.JoinedCond
import Derived.Shelf.Vars
import Derived.Test.YtfiojiokmkiflaaDoorHVars
namespace Go.Proofs.YtfiojiokmkiflaaDoor.fnExactParseLine
open Go.ChangeShapes Go.WideShapes Go.ChangeAt Go.RowKit
open Go.ChangeMaps (open_string shut_string)
open Go.Proofs.YtfiojiokmkiflaaDoor.GFnExactParseLine Go.Proofs.YtfiojiokmkiflaaDoorH Go.Proofs.YtfiojiokmkiflaaDoorW.PrintWords Go.Proofs.YtfiojiokmkiflaaDoorW.PrintLast
set_option linter.unusedVariables false
theorem own : ownKnob Tryd.prog.godebug = none := by kernel_rfl
theorem laidOut : laidOutB Tryd.prog = true := by kernel_rfl
noncomputable def low_ : Nat := (World.holding Tryd.prog default ⟨#[], #[], []⟩).heap.size
noncomputable def laidWorld (os : Os) : World := { World.holding Tryd.prog os ⟨#[.cells #[.string ⟨#[118, 97, 108, 117, 101, 32, 111, 117, 116, 32, 111, 102, 32, 114, 97, 110, 103, 101]⟩] 284, .cells #[.string ⟨#[105, 110, 118, 97, 108, 105, 100, 32, 115, 121, 110, 116, 97, 120]⟩] 284], #[], []⟩ with heap := (((((((((((((((World.holding Tryd.prog os ⟨#[.cells #[.string ⟨#[118, 97, 108, 117, 101, 32, 111, 117, 116, 32, 111, 102, 32, 114, 97, 110, 103, 101]⟩] 284, .cells #[.string ⟨#[105, 110, 118, 97, 108, 105, 100, 32, 115, 121, 110, 116, 97, 120]⟩] 284], #[], []⟩).heap).modify 7 fun | .cells _ t frozen => .cells (Go.Proofs.YtfiojiokmkiflaaDoorH.flatD Rows.laid_math_bits_deBruijn32tab).toArray t frozen | o => o)).modify 8 fun | .cells _ t frozen => .cells (Go.Proofs.YtfiojiokmkiflaaDoorH.flatD Rows.laid_math_bits_deBruijn64tab).toArray t frozen | o => o)).modify 6 fun | .cells _ t frozen => .cells (Go.Proofs.YtfiojiokmkiflaaDoorH.flatD Rows.laid_internal_strconv_uint64pow10).toArray t frozen | o => o)).modify 3 fun | .cells _ t frozen => .cells (Go.Proofs.YtfiojiokmkiflaaDoorH.flatD Rows.laid_unicode_utf8_acceptRanges).toArray t frozen | o => o)).modify 5 fun | .cells _ t frozen => .cells #[.iface 282 (.pointer (some ⟨low_ + 0, 0, none⟩))] t frozen | o => o)).modify 4 fun | .cells _ t frozen => .cells #[.iface 282 (.pointer (some ⟨low_ + 1, 0, none⟩))] t frozen | o => o)).modify 2 fun | .cells _ t frozen => .cells (Go.Proofs.YtfiojiokmkiflaaDoorH.flatD Rows.laid_unicode_utf8_first).toArray t frozen | o => o) }
set_option maxRecDepth 100000 in
theorem laid_met (os : Os) : laidMetH Tryd.prog Rows.fnExactParseLineRow.laid ((laidWorld os).forCall (fun _ _ => 0) ⟨#[], #[.slice none 0 0], []⟩).memory :=
 laidMet_of_run' 8 (by kernel_rfl) (by kernel_rfl)
set_option maxHeartbeats 8000000 in
set_option maxRecDepth 100000 in
theorem lifted (os : Os) (started : os.Started) (H : Type) (enc : TypeId × Value → H) (F : Stop.Interp) :
  ReturnsInHanded {} Tryd.checked os 5 .any ((OpenSpec.ofChange Rows.fnExactParseLineSpec).preRow enc Tryd.prog Tryd.f5 Rows.fnExactParseLineRow.domain false Rows.fnExactParseLineRow.laid) (((OpenSpec.ofChange Rows.fnExactParseLineSpec).at F).post enc Tryd.prog Tryd.f5 false true false false) := by
 refine returnsInHanded_of_row (C := Tryd.checked) (s := (OpenSpec.ofChange Rows.fnExactParseLineSpec)) own started (by kernel_rfl) Tryd.func5
  (witness_row_at (enc := enc) (C := Tryd.checked) false (laidWorld os) #[.slice none 0 0] rfl (by kernel_rfl) (by kernel_rfl) (by kernel_rfl) (OpenSpec.preRow_of_B rfl 8 (by kernel_rfl) (by kernel_rfl) (laid_met os))) ?_
 intro W base args ds gs before hval0 hW _ _ hsz0 hL hsh _
 have hval : ∀ (j : Nat) t v, Tryd.f5.params[j]? = some t → args[j]? = some v → Value.okWide Tryd.prog W .any base t v := hval0
 have hW' := hW
 obtain ⟨p, q, hA0, hV, rfl, hfz, hnd⟩ := hW
 have hA : DataW.TrodAll enc Tryd.prog W 0 (fun _ => true) true Tryd.f5.params.toList args.toList ds p := hA0
 rw [Tryd.params5] at hA hval
 have hGl : gs.length = 0 := trodVars_len hV
 obtain rfl : gs = [] := by
  match gs, hGl with | [], _ => rfl
 have hGMAX_ : Go.Proofs.YtfiojiokmkiflaaDoorH.GFMAX W := cell_of_shapedOpen_int (P := Tryd.prog) (g := 1) (t := 3) (zero := #[.int .i64 0]) hsh (of_decide_eq_true (by kernel_rfl)) (by kernel_rfl) rfl (by kernel_rfl) (by kernel_rfl) Tryd.underlying3
 obtain ⟨v0, vs0, d0, ds0, p0, q0, hargs, rfl, rfl, h0, r0⟩ := trodAll_cons hA
 obtain ⟨rfl, rfl, rfl⟩ := trodAll_nil r0
 obtain rfl : args = #[v0] := by cases args; simp_all
 have kk0 := h0
 have lt0 : ∀ x ∈ p0, x.block < W.heap.size := by obtain ⟨m, hm⟩ := kk0; exact DataW.trod_lt m _ _ _ hm
 obtain ⟨a0, len0, cap0, rfl⟩ := okWide_slice Tryd.underlying22 (hval 0 22 v0 rfl rfl)
 obtain ⟨fuel0, hf0⟩ := h0
 obtain ⟨x0, hk0, hw0⟩ := (Opens.slice Tryd.underlying22 (by kernel_rfl) (@Opens.int Tryd.prog 5 .u8 Tryd.underlying5)) enc W 0 (fun _ => true) true fuel0 _ _ hf0
 obtain ⟨A1_, c1_, hcs0, hc1_, hr1_⟩ := hk0
 obtain ⟨rfl, rfl, rfl⟩ : A1_ = a0 ∧ x0.length = len0 ∧ c1_ = cap0 := by have h_ := hcs0; simp [Value.cells] at h_; exact ⟨h_.1.symm, h_.2.1.symm, h_.2.2.symm⟩
 obtain ⟨k, hh⟩ := Pure.FnExactParseLine x0 hw0
 clear hA0 hval0 hsz0
 refine (laws_FnExactParseLine.calls k A1_ c1_ x0 true W hr1_ hc1_ hh hGMAX_).mono fun e W' ⟨he, bel⟩ => ?_
 subst he
 exact ⟨_, rfl, _, _, _, [], _, q, hW', trodAll_mk1 (shut_bool Tryd.underlying4 _), (trodAll_cons_mk (Below.trod laidOut (by kernel_rfl) (of_decide_eq_true (by kernel_rfl)) kk0 bel lt0) trodAll_mk0), Below.trodVars laidOut bel (by kernel_rfl) hV, bel.frame _, fun h => by cases h⟩
theorem over : Rows.fnExactParseLineRow.holds Tryd.pinned (OpenSpec.ofChange Rows.fnExactParseLineSpec) :=
 OpenClaim.holds_of_cond 5 Tryd.f5 rfl rfl rfl rfl rfl rfl rfl ⟨rfl, rfl, rfl, rfl, rfl⟩ rfl rfl rfl rfl rfl (by kernel_rfl) Tryd.func5 (by kernel_rfl)
  (of_decide_eq_true (by kernel_rfl)) (by unfold Func.isWrapper; first | (rw [if_pos (by decide +kernel)]; kernel_rfl) | (rw [if_neg (by decide +kernel)]; exact ⟨rfl, rfl⟩))
  (fun os started H enc _ F0 => by rw [OpenClaim.pre_eq_preRow]; exact lifted os started H enc F0)
theorem card : Rows.FnExactParseLineCardSaid :=
 Claim7.holds_tied_plain_at .later [] [.data, .data, .data, .data, .sentinel, .sentinel, .pinned] true (true, "346a6c1912d92bd2335e1ac0e75f2109089652de92247e81187828d6cbe60109") true over (fun _ h => by cases h) (by kernel_rfl) (fun _ h => by cases h) fnExactParseLine_row_tie rfl ⟨rfl, rfl⟩ (by kernel_rfl) rfl
  (fun f fn hf hfn => by
   obtain rfl : f = 5 := Option.some.inj ((show Tryd.prog.funcNamed "loop.example/s01594/laws.FnExactParseLine" = some 5 by kernel_rfl).symm.trans hf) |>.symm
   obtain rfl : fn = Tryd.f5 := (Option.some.inj (Tryd.func5.symm.trans hfn)).symm
   refine ⟨by kernel_rfl, fun j t ht => ?_⟩
   have h_ : t ∈ Tryd.f5.params.toList := Array.mem_toList_iff.2 (Array.mem_of_getElem? ht)
   have ha_ : Tryd.f5.params.toList.all (fun t => Tryd.prog.wantsStandIn t == false) = true := by kernel_rfl
   exact (show Tryd.prog.wantsStandIn t = false by simpa using (List.all_eq_true.1 ha_ t h_)))
  (by kernel_rfl)
end Go.Proofs.YtfiojiokmkiflaaDoor.fnExactParseLine
namespace Go.Proofs.YtfiojiokmkiflaaDoor
/-- The card, under a short name, for the claim. -/
theorem fnExactParseLine_holds : Rows.FnExactParseLineCardSaid := fnExactParseLine.card
end Go.Proofs.YtfiojiokmkiflaaDoor
