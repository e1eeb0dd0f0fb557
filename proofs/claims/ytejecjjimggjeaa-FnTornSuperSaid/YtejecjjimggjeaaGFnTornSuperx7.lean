/- Written by give.py, a program of this session, that runs the kit's print and lays contracts proved by hand beside it. -/
import Derived.Test.YtejecjjimggjeaaGFnTornSuperx0
import Derived.Test.YtejecjjimggjeaaGFnTornSuperx1
import Derived.Test.YtejecjjimggjeaaGFnTornSuperx3
import Derived.Test.YtejecjjimggjeaaGFnTornSuperx5
import Derived.Test.YtejecjjimggjeaaGFnTornSuperx6
namespace Go.Proofs.Ytejecjjimggjeaa.GFnTornSuper
open Go.RowKit Go.Proofs.YtejecjjimggjeaaW.PrintWords Go.Proofs.YtejecjjimggjeaaW.PrintLast Go.Proofs.YtejecjjimggjeaaW.PrintMore
attribute [local go_sem] max2_int min2_int max_two min_two max_three min_three max_four min_four
attribute [local go_sem high] Go.Proofs.YtejecjjimggjeaaH.str_leq Go.Proofs.YtejecjjimggjeaaH.str_geq Go.Proofs.YtejecjjimggjeaaH.str_gtr   -- for this text's walks alone
set_option linter.unusedVariables false
set_option linter.unusedSimpArgs false

attribute [local go_sem high] eqA52
mutual
def laws_FnTornSuper.j0 : Nat → List Int → List Int → Bool → Option (Bool)
 | 0, _, _, _ => none
 | k + 1, x0, x1, x19 => if x19 = true then (some true) else ((spec_DrawEncodeSuper.f k x0).bind fun bt256 => ((spec_DrawEncodeSuper.f k x1).bind fun bt262 => ((impl_EncodeSuper.f k bt256.1 bt256.2.1 bt256.2.2.1 bt256.2.2.2.1 bt256.2.2.2.2).bind fun t268 => ((impl_EncodeSuper.f k bt262.1 bt262.2.1 bt262.2.2.1 bt262.2.2.2.1 bt262.2.2.2.2).bind fun t271 => ((spec_EncodeSuper.f k bt256.1 bt256.2.1 bt256.2.2.1 bt256.2.2.2.1 bt256.2.2.2.2).bind fun t274 => (if (t274.length : Int) = 0 then (laws_FnTornSuper.j1 k t268 t271 true bt256.1 bt256.2.1 bt256.2.2.1 bt256.2.2.2.1 bt256.2.2.2.2 bt262.1 bt262.2.1 bt262.2.2.1 bt262.2.2.2.1 bt262.2.2.2.2) else ((spec_EncodeSuper.f k bt262.1 bt262.2.1 bt262.2.2.1 bt262.2.2.2.1 bt262.2.2.2.2).bind fun t277 => (laws_FnTornSuper.j1 k t268 t271 ((t277.length : Int) == 0) bt256.1 bt256.2.1 bt256.2.2.1 bt256.2.2.2.1 bt256.2.2.2.2 bt262.1 bt262.2.1 bt262.2.2.1 bt262.2.2.2.1 bt262.2.2.2.2))))))))
def laws_FnTornSuper.j1 : Nat → List Int → List Int → Bool → Int → Int → Int → Int → Int → Int → Int → Int → Int → Int → Option (Bool)
 | 0, _, _, _, _, _, _, _, _, _, _, _, _, _ => none
 | k + 1, x7, x8, x37, x262000, x262001, x262002, x262003, x262004, x268000, x268001, x268002, x268003, x268004 => if x37 = true then ((spec_EncodeSuper.f k x262000 x262001 x262002 x262003 x262004).bind fun t280 => (if (x7.length : Int) = (t280.length : Int) then ((spec_EncodeSuper.f k x268000 x268001 x268002 x268003 x268004).bind fun t283 => (some ((x8.length : Int) == (t283.length : Int)))) else (some false))) else (if (x7.length : Int) = 64 then (laws_FnTornSuper.j2 k x7 x8 ((x8.length : Int) != 64) x262000 x262001 x262002 x262003 x262004 x268000 x268001 x268002 x268003 x268004) else (laws_FnTornSuper.j2 k x7 x8 true x262000 x262001 x262002 x262003 x262004 x268000 x268001 x268002 x268003 x268004))
def laws_FnTornSuper.j2 : Nat → List Int → List Int → Bool → Int → Int → Int → Int → Int → Int → Int → Int → Int → Int → Option (Bool)
 | 0, _, _, _, _, _, _, _, _, _, _, _, _, _ => none
 | k + 1, x7, x8, x59, x262000, x262001, x262002, x262003, x262004, x268000, x268001, x268002, x268003, x268004 => if x59 = true then (some false) else (laws_FnTornSuper.l0 k x7 x8 0 x262000 x262001 x262002 x262003 x262004 x268000 x268001 x268002 x268003 x268004)
def laws_FnTornSuper.l0 : Nat → List Int → List Int → Int → Int → Int → Int → Int → Int → Int → Int → Int → Int → Int → Option (Bool)
 | 0, _, _, _, _, _, _, _, _, _, _, _, _, _ => none
 | k + 1, x7, x8, x9, x262000, x262001, x262002, x262003, x262004, x268000, x268001, x268002, x268003, x268004 => if x9 ≤ 64 then ((gosem_cut.f k x8 x7 x9).bind fun bt286 => (if x9 = 0 then (if bt286.1 = true then (if (!(bt286.2.1 == x262000) || (!(bt286.2.2.1 == x262001) || (!(bt286.2.2.2.1 == x262002) || (!(bt286.2.2.2.2.1 == x262003) || (!(bt286.2.2.2.2.2 == x262004)))))) = true then (laws_FnTornSuper.j4 k x7 x8 x9 true x262000 x262001 x262002 x262003 x262004 x268000 x268001 x268002 x268003 x268004 bt286.1 bt286.2.1 bt286.2.2.1 bt286.2.2.2.1 bt286.2.2.2.2.1 bt286.2.2.2.2.2) else (if x9 = 64 then (laws_FnTornSuper.j4 k x7 x8 x9 (!(bt286.2.1 == x268000) || (!(bt286.2.2.1 == x268001) || (!(bt286.2.2.2.1 == x268002) || (!(bt286.2.2.2.2.1 == x268003) || (!(bt286.2.2.2.2.2 == x268004)))))) x262000 x262001 x262002 x262003 x262004 x268000 x268001 x268002 x268003 x268004 bt286.1 bt286.2.1 bt286.2.2.1 bt286.2.2.2.1 bt286.2.2.2.2.1 bt286.2.2.2.2.2) else (laws_FnTornSuper.j4 k x7 x8 x9 false x262000 x262001 x262002 x262003 x262004 x268000 x268001 x268002 x268003 x268004 bt286.1 bt286.2.1 bt286.2.2.1 bt286.2.2.2.1 bt286.2.2.2.2.1 bt286.2.2.2.2.2))) else (laws_FnTornSuper.j4 k x7 x8 x9 true x262000 x262001 x262002 x262003 x262004 x268000 x268001 x268002 x268003 x268004 bt286.1 bt286.2.1 bt286.2.2.1 bt286.2.2.2.1 bt286.2.2.2.2.1 bt286.2.2.2.2.2)) else (if x9 = 64 then (if bt286.1 = true then (laws_FnTornSuper.j4 k x7 x8 x9 (!(bt286.2.1 == x268000) || (!(bt286.2.2.1 == x268001) || (!(bt286.2.2.2.1 == x268002) || (!(bt286.2.2.2.2.1 == x268003) || (!(bt286.2.2.2.2.2 == x268004)))))) x262000 x262001 x262002 x262003 x262004 x268000 x268001 x268002 x268003 x268004 bt286.1 bt286.2.1 bt286.2.2.1 bt286.2.2.2.1 bt286.2.2.2.2.1 bt286.2.2.2.2.2) else (laws_FnTornSuper.j4 k x7 x8 x9 true x262000 x262001 x262002 x262003 x262004 x268000 x268001 x268002 x268003 x268004 bt286.1 bt286.2.1 bt286.2.2.1 bt286.2.2.2.1 bt286.2.2.2.2.1 bt286.2.2.2.2.2)) else (laws_FnTornSuper.j4 k x7 x8 x9 false x262000 x262001 x262002 x262003 x262004 x268000 x268001 x268002 x268003 x268004 bt286.1 bt286.2.1 bt286.2.2.1 bt286.2.2.2.1 bt286.2.2.2.2.1 bt286.2.2.2.2.2)))) else (some true)
def laws_FnTornSuper.j4 : Nat → List Int → List Int → Int → Bool → Int → Int → Int → Int → Int → Int → Int → Int → Int → Int → Bool → Int → Int → Int → Int → Int → Option (Bool)
 | 0, _, _, _, _, _, _, _, _, _, _, _, _, _, _, _, _, _, _, _, _ => none
 | k + 1, x7, x8, x9, x103, x262000, x262001, x262002, x262003, x262004, x268000, x268001, x268002, x268003, x268004, x293000, x293001, x293002, x293003, x293004, x293005 => if x103 = true then (some false) else (if x262000 = x268000 then (laws_FnTornSuper.l0 k x7 x8 (wrap64 (x9 + 1)) x262000 x262001 x262002 x262003 x262004 x268000 x268001 x268002 x268003 x268004) else (if x293000 = true then (if (!(x293001 == x262000) || (!(x293002 == x262001) || (!(x293003 == x262002) || (!(x293004 == x262003) || (!(x293005 == x262004)))))) = true then (if (!(x293001 == x268000) || (!(x293002 == x268001) || (!(x293003 == x268002) || (!(x293004 == x268003) || (!(x293005 == x268004)))))) = true then (some false) else (laws_FnTornSuper.l0 k x7 x8 (wrap64 (x9 + 1)) x262000 x262001 x262002 x262003 x262004 x268000 x268001 x268002 x268003 x268004)) else (laws_FnTornSuper.l0 k x7 x8 (wrap64 (x9 + 1)) x262000 x262001 x262002 x262003 x262004 x268000 x268001 x268002 x268003 x268004)) else (laws_FnTornSuper.l0 k x7 x8 (wrap64 (x9 + 1)) x262000 x262001 x262002 x262003 x262004 x268000 x268001 x268002 x268003 x268004)))
end
def laws_FnTornSuper.f (k : Nat) (l0 : List Int) (l1 : List Int) : Option (Bool) := if (l0.length : Int) > 1048576 then (laws_FnTornSuper.j0 k l0 l1 true) else (laws_FnTornSuper.j0 k l0 l1 (decide ((l1.length : Int) > 1048576)))
theorem laws_FnTornSuper.mono_l : ∀ k, (∀ y0 y1 y2, LeO (laws_FnTornSuper.j0 k y0 y1 y2) (laws_FnTornSuper.j0 (k + 1) y0 y1 y2)) ∧ (∀ y0 y1 y2 y3 y4 y5 y6 y7 y8 y9 y10 y11 y12, LeO (laws_FnTornSuper.j1 k y0 y1 y2 y3 y4 y5 y6 y7 y8 y9 y10 y11 y12) (laws_FnTornSuper.j1 (k + 1) y0 y1 y2 y3 y4 y5 y6 y7 y8 y9 y10 y11 y12)) ∧ (∀ y0 y1 y2 y3 y4 y5 y6 y7 y8 y9 y10 y11 y12, LeO (laws_FnTornSuper.j2 k y0 y1 y2 y3 y4 y5 y6 y7 y8 y9 y10 y11 y12) (laws_FnTornSuper.j2 (k + 1) y0 y1 y2 y3 y4 y5 y6 y7 y8 y9 y10 y11 y12)) ∧ (∀ y0 y1 y2 y3 y4 y5 y6 y7 y8 y9 y10 y11 y12, LeO (laws_FnTornSuper.l0 k y0 y1 y2 y3 y4 y5 y6 y7 y8 y9 y10 y11 y12) (laws_FnTornSuper.l0 (k + 1) y0 y1 y2 y3 y4 y5 y6 y7 y8 y9 y10 y11 y12)) ∧ (∀ y0 y1 y2 y3 y4 y5 y6 y7 y8 y9 y10 y11 y12 y13 y14 y15 y16 y17 y18 y19, LeO (laws_FnTornSuper.j4 k y0 y1 y2 y3 y4 y5 y6 y7 y8 y9 y10 y11 y12 y13 y14 y15 y16 y17 y18 y19) (laws_FnTornSuper.j4 (k + 1) y0 y1 y2 y3 y4 y5 y6 y7 y8 y9 y10 y11 y12 y13 y14 y15 y16 y17 y18 y19))
 | 0 => ⟨fun _ _ _ r h => by simp [laws_FnTornSuper.j0] at h, fun _ _ _ _ _ _ _ _ _ _ _ _ _ r h => by simp [laws_FnTornSuper.j1] at h, fun _ _ _ _ _ _ _ _ _ _ _ _ _ r h => by simp [laws_FnTornSuper.j2] at h, fun _ _ _ _ _ _ _ _ _ _ _ _ _ r h => by simp [laws_FnTornSuper.l0] at h, fun _ _ _ _ _ _ _ _ _ _ _ _ _ _ _ _ _ _ _ _ r h => by simp [laws_FnTornSuper.j4] at h⟩
 | k + 1 => by
  obtain ⟨ih0, ih1, ih2, ih3, ih4⟩ := laws_FnTornSuper.mono_l k
  refine ⟨?_, ?_, ?_, ?_, ?_⟩
  ·intro y0 y1 y2
   unfold laws_FnTornSuper.j0
   repeat' first
   | (with_reducible exact ih0 _ _ _)
   | (with_reducible exact ih1 _ _ _ _ _ _ _ _ _ _ _ _ _)
   | (with_reducible exact ih2 _ _ _ _ _ _ _ _ _ _ _ _ _)
   | (with_reducible exact ih3 _ _ _ _ _ _ _ _ _ _ _ _ _)
   | (with_reducible exact ih4 _ _ _ _ _ _ _ _ _ _ _ _ _ _ _ _ _ _ _ _)
   | (with_reducible exact gosem_cut.mono _ _ _ _)
   | (with_reducible exact impl_EncodeSuper.mono _ _ _ _ _ _)
   | (with_reducible exact spec_DrawEncodeSuper.mono _ _)
   | (with_reducible exact spec_EncodeSuper.mono _ _ _ _ _ _)
   | (with_reducible exact LeO.refl _)
   | (with_reducible exact LeO.none _)
   | (with_reducible refine LeO.ite ?_ ?_)
   | (with_reducible refine LeO.bind ?_ (fun _ => ?_))
   | exact ih0 _ _ _
   | exact ih1 _ _ _ _ _ _ _ _ _ _ _ _ _
   | exact ih2 _ _ _ _ _ _ _ _ _ _ _ _ _
   | exact ih3 _ _ _ _ _ _ _ _ _ _ _ _ _
   | exact ih4 _ _ _ _ _ _ _ _ _ _ _ _ _ _ _ _ _ _ _ _
   | exact gosem_cut.mono _ _ _ _
   | exact impl_EncodeSuper.mono _ _ _ _ _ _
   | exact spec_DrawEncodeSuper.mono _ _
   | exact spec_EncodeSuper.mono _ _ _ _ _ _
   | exact LeO.none _
   | refine LeO.ite ?_ ?_
   | refine LeO.bind ?_ (fun _ => ?_)
  ·intro y0 y1 y2 y3 y4 y5 y6 y7 y8 y9 y10 y11 y12
   unfold laws_FnTornSuper.j1
   repeat' first
   | (with_reducible exact ih0 _ _ _)
   | (with_reducible exact ih1 _ _ _ _ _ _ _ _ _ _ _ _ _)
   | (with_reducible exact ih2 _ _ _ _ _ _ _ _ _ _ _ _ _)
   | (with_reducible exact ih3 _ _ _ _ _ _ _ _ _ _ _ _ _)
   | (with_reducible exact ih4 _ _ _ _ _ _ _ _ _ _ _ _ _ _ _ _ _ _ _ _)
   | (with_reducible exact gosem_cut.mono _ _ _ _)
   | (with_reducible exact impl_EncodeSuper.mono _ _ _ _ _ _)
   | (with_reducible exact spec_DrawEncodeSuper.mono _ _)
   | (with_reducible exact spec_EncodeSuper.mono _ _ _ _ _ _)
   | (with_reducible exact LeO.refl _)
   | (with_reducible exact LeO.none _)
   | (with_reducible refine LeO.ite ?_ ?_)
   | (with_reducible refine LeO.bind ?_ (fun _ => ?_))
   | exact ih0 _ _ _
   | exact ih1 _ _ _ _ _ _ _ _ _ _ _ _ _
   | exact ih2 _ _ _ _ _ _ _ _ _ _ _ _ _
   | exact ih3 _ _ _ _ _ _ _ _ _ _ _ _ _
   | exact ih4 _ _ _ _ _ _ _ _ _ _ _ _ _ _ _ _ _ _ _ _
   | exact gosem_cut.mono _ _ _ _
   | exact impl_EncodeSuper.mono _ _ _ _ _ _
   | exact spec_DrawEncodeSuper.mono _ _
   | exact spec_EncodeSuper.mono _ _ _ _ _ _
   | exact LeO.none _
   | refine LeO.ite ?_ ?_
   | refine LeO.bind ?_ (fun _ => ?_)
  ·intro y0 y1 y2 y3 y4 y5 y6 y7 y8 y9 y10 y11 y12
   unfold laws_FnTornSuper.j2
   repeat' first
   | (with_reducible exact ih0 _ _ _)
   | (with_reducible exact ih1 _ _ _ _ _ _ _ _ _ _ _ _ _)
   | (with_reducible exact ih2 _ _ _ _ _ _ _ _ _ _ _ _ _)
   | (with_reducible exact ih3 _ _ _ _ _ _ _ _ _ _ _ _ _)
   | (with_reducible exact ih4 _ _ _ _ _ _ _ _ _ _ _ _ _ _ _ _ _ _ _ _)
   | (with_reducible exact gosem_cut.mono _ _ _ _)
   | (with_reducible exact impl_EncodeSuper.mono _ _ _ _ _ _)
   | (with_reducible exact spec_DrawEncodeSuper.mono _ _)
   | (with_reducible exact spec_EncodeSuper.mono _ _ _ _ _ _)
   | (with_reducible exact LeO.refl _)
   | (with_reducible exact LeO.none _)
   | (with_reducible refine LeO.ite ?_ ?_)
   | (with_reducible refine LeO.bind ?_ (fun _ => ?_))
   | exact ih0 _ _ _
   | exact ih1 _ _ _ _ _ _ _ _ _ _ _ _ _
   | exact ih2 _ _ _ _ _ _ _ _ _ _ _ _ _
   | exact ih3 _ _ _ _ _ _ _ _ _ _ _ _ _
   | exact ih4 _ _ _ _ _ _ _ _ _ _ _ _ _ _ _ _ _ _ _ _
   | exact gosem_cut.mono _ _ _ _
   | exact impl_EncodeSuper.mono _ _ _ _ _ _
   | exact spec_DrawEncodeSuper.mono _ _
   | exact spec_EncodeSuper.mono _ _ _ _ _ _
   | exact LeO.none _
   | refine LeO.ite ?_ ?_
   | refine LeO.bind ?_ (fun _ => ?_)
  ·intro y0 y1 y2 y3 y4 y5 y6 y7 y8 y9 y10 y11 y12
   unfold laws_FnTornSuper.l0
   repeat' first
   | (with_reducible exact ih0 _ _ _)
   | (with_reducible exact ih1 _ _ _ _ _ _ _ _ _ _ _ _ _)
   | (with_reducible exact ih2 _ _ _ _ _ _ _ _ _ _ _ _ _)
   | (with_reducible exact ih3 _ _ _ _ _ _ _ _ _ _ _ _ _)
   | (with_reducible exact ih4 _ _ _ _ _ _ _ _ _ _ _ _ _ _ _ _ _ _ _ _)
   | (with_reducible exact gosem_cut.mono _ _ _ _)
   | (with_reducible exact impl_EncodeSuper.mono _ _ _ _ _ _)
   | (with_reducible exact spec_DrawEncodeSuper.mono _ _)
   | (with_reducible exact spec_EncodeSuper.mono _ _ _ _ _ _)
   | (with_reducible exact LeO.refl _)
   | (with_reducible exact LeO.none _)
   | (with_reducible refine LeO.ite ?_ ?_)
   | (with_reducible refine LeO.bind ?_ (fun _ => ?_))
   | exact ih0 _ _ _
   | exact ih1 _ _ _ _ _ _ _ _ _ _ _ _ _
   | exact ih2 _ _ _ _ _ _ _ _ _ _ _ _ _
   | exact ih3 _ _ _ _ _ _ _ _ _ _ _ _ _
   | exact ih4 _ _ _ _ _ _ _ _ _ _ _ _ _ _ _ _ _ _ _ _
   | exact gosem_cut.mono _ _ _ _
   | exact impl_EncodeSuper.mono _ _ _ _ _ _
   | exact spec_DrawEncodeSuper.mono _ _
   | exact spec_EncodeSuper.mono _ _ _ _ _ _
   | exact LeO.none _
   | refine LeO.ite ?_ ?_
   | refine LeO.bind ?_ (fun _ => ?_)
  ·intro y0 y1 y2 y3 y4 y5 y6 y7 y8 y9 y10 y11 y12 y13 y14 y15 y16 y17 y18 y19
   unfold laws_FnTornSuper.j4
   repeat' first
   | (with_reducible exact ih0 _ _ _)
   | (with_reducible exact ih1 _ _ _ _ _ _ _ _ _ _ _ _ _)
   | (with_reducible exact ih2 _ _ _ _ _ _ _ _ _ _ _ _ _)
   | (with_reducible exact ih3 _ _ _ _ _ _ _ _ _ _ _ _ _)
   | (with_reducible exact ih4 _ _ _ _ _ _ _ _ _ _ _ _ _ _ _ _ _ _ _ _)
   | (with_reducible exact gosem_cut.mono _ _ _ _)
   | (with_reducible exact impl_EncodeSuper.mono _ _ _ _ _ _)
   | (with_reducible exact spec_DrawEncodeSuper.mono _ _)
   | (with_reducible exact spec_EncodeSuper.mono _ _ _ _ _ _)
   | (with_reducible exact LeO.refl _)
   | (with_reducible exact LeO.none _)
   | (with_reducible refine LeO.ite ?_ ?_)
   | (with_reducible refine LeO.bind ?_ (fun _ => ?_))
   | exact ih0 _ _ _
   | exact ih1 _ _ _ _ _ _ _ _ _ _ _ _ _
   | exact ih2 _ _ _ _ _ _ _ _ _ _ _ _ _
   | exact ih3 _ _ _ _ _ _ _ _ _ _ _ _ _
   | exact ih4 _ _ _ _ _ _ _ _ _ _ _ _ _ _ _ _ _ _ _ _
   | exact gosem_cut.mono _ _ _ _
   | exact impl_EncodeSuper.mono _ _ _ _ _ _
   | exact spec_DrawEncodeSuper.mono _ _
   | exact spec_EncodeSuper.mono _ _ _ _ _ _
   | exact LeO.none _
   | refine LeO.ite ?_ ?_
   | refine LeO.bind ?_ (fun _ => ?_)
theorem laws_FnTornSuper.mono : ∀ a0 a1 k, LeO (laws_FnTornSuper.f k a0 a1) (laws_FnTornSuper.f (k + 1) a0 a1) := by
 intro a0 a1 k
 obtain ⟨ih0, ih1, ih2, ih3, ih4⟩ := laws_FnTornSuper.mono_l k
 unfold laws_FnTornSuper.f
 repeat' first
   | (with_reducible exact ih0 _ _ _)
   | (with_reducible exact ih1 _ _ _ _ _ _ _ _ _ _ _ _ _)
   | (with_reducible exact ih2 _ _ _ _ _ _ _ _ _ _ _ _ _)
   | (with_reducible exact ih3 _ _ _ _ _ _ _ _ _ _ _ _ _)
   | (with_reducible exact ih4 _ _ _ _ _ _ _ _ _ _ _ _ _ _ _ _ _ _ _ _)
   | (with_reducible exact gosem_cut.mono _ _ _ _)
   | (with_reducible exact impl_EncodeSuper.mono _ _ _ _ _ _)
   | (with_reducible exact spec_DrawEncodeSuper.mono _ _)
   | (with_reducible exact spec_EncodeSuper.mono _ _ _ _ _ _)
   | (with_reducible exact LeO.refl _)
   | (with_reducible exact LeO.none _)
   | (with_reducible refine LeO.ite ?_ ?_)
   | (with_reducible refine LeO.bind ?_ (fun _ => ?_))
   | exact ih0 _ _ _
   | exact ih1 _ _ _ _ _ _ _ _ _ _ _ _ _
   | exact ih2 _ _ _ _ _ _ _ _ _ _ _ _ _
   | exact ih3 _ _ _ _ _ _ _ _ _ _ _ _ _
   | exact ih4 _ _ _ _ _ _ _ _ _ _ _ _ _ _ _ _ _ _ _ _
   | exact gosem_cut.mono _ _ _ _
   | exact impl_EncodeSuper.mono _ _ _ _ _ _
   | exact spec_DrawEncodeSuper.mono _ _
   | exact spec_EncodeSuper.mono _ _ _ _ _ _
   | exact LeO.none _
   | refine LeO.ite ?_ ?_
   | refine LeO.bind ?_ (fun _ => ?_)
set_option maxHeartbeats 8000000 in
set_option maxRecDepth 100000 in
theorem laws_FnTornSuper.calls (k : Nat) (A0 : Option Addr) (c0 : Nat) (l0 : List Int) (A1 : Option Addr) (c1 : Nat) (l1 : List Int) (r : Bool) (w : World) (hr0 : Kd.C (Kd.int .u8) w A0 l0.length l0) (hc0 : l0.length ≤ c0) (hr1 : Kd.C (Kd.int .u8) w A1 l1.length l1) (hc1 : l1.length ≤ c1) (h : laws_FnTornSuper.f k l0 l1 = some r) :
  Calls Try.prog 6 #[.slice A0 l0.length c0, .slice A1 l1.length c1] w fun e w' => e = .returned (.bool r) ∧ Below w.heap.size w w' := by
 have hu52 := Try.underlying52
 have hu56 := Try.underlying56
 have HR0 := Aside0.mk hr0
 have HC0 := Aside0.mk hc0
 clear hr0 hc0
 have HR1 := Aside0.mk hr1
 have HC1 := Aside0.mk hc1
 clear hr1 hc1
 have HB := Aside0.mk (Below.refl w.heap.size w)
 have H : (if (l0.length : Int) > 1048576 then (laws_FnTornSuper.j0 k l0 l1 true) else (laws_FnTornSuper.j0 k l0 l1 (decide ((l1.length : Int) > 1048576)))) = some r := h
 clear h
 have HC3 := Aside0.mk H
 clear H
 go_enter Try.func6, Try.ntmps6
 go_upto_region 1 with (fail)
 go_cut [19] (fun v19 wc => ∃ (kq : Nat) (x19_2 : Bool), v19 = .bool x19_2 ∧ Aside0 (laws_FnTornSuper.j0 kq l0 l1 x19_2 = some r) ∧ Aside0 (kq ≤ k) ∧ Aside0 (Below w.heap.size w wc))
 case first =>
  have H := HC3.out
  clear HC3
  by_cases c4 : (l0.length : Int) > 1048576
  ·rw [if_pos c4] at H
   have c4b0 : decide (1048576 < (l0.length : Int)) = true := decide_eq_true c4
   have c4b1 : decide (1048576 < l0.length) = true := decide_eq_true (by omega)
   clear c4
   (first | rw [c4b0] | (simp only [zv, zx]; rw [c4b0]) | skip)
   have H' := Aside0.mk H
   clear H
   go_wp2
   go_meet
   case rel => exact ⟨_, (true), (by first | rfl | (simp; done) | (simp [*]; done)), H', ⟨by first | omega | exact Nat.le_refl _⟩, ⟨by repeat (first | (with_reducible first | exact HB.out | apply zg | apply zd | apply zh) | exact HB.out)⟩⟩
  ·rw [if_neg c4] at H
   have c4b0 : decide (1048576 < (l0.length : Int)) = false := decide_eq_false c4
   have c4b1 : decide (1048576 < l0.length) = false := decide_eq_false (by omega)
   clear c4
   (first | rw [c4b0] | (simp only [zv, zx]; rw [c4b0]) | skip)
   have H' := Aside0.mk H
   clear H
   go_wp2
   go_meet
   case rel => exact ⟨_, (decide ((l1.length : Int) > 1048576)), (by first | rfl | (simp; done) | (simp [*]; done)), H', ⟨by first | omega | exact Nat.le_refl _⟩, ⟨by repeat (first | (with_reducible first | exact HB.out | apply zg | apply zd | apply zh) | exact HB.out)⟩⟩
 case rest =>
  clear HC3
  try clear c1
  try clear p2
  try clear c4
  try clear c4b0
  try clear c4b1
  obtain ⟨kq, x19_2, rfl, HA, HJ2, HB⟩ := hcut
  cases kq with
  | zero => exact absurd HA.out (by simp [laws_FnTornSuper.j0])
  | succ kj2 =>
   have H := HA.out
   clear HA
   simp only [laws_FnTornSuper.j0] at H
   by_cases c5 : x19_2 = true
   ·subst c5
    have H1 : (some true) = some r := by rw [if_pos rfl] at H; exact H
    clear H
    have H := H1
    clear H1
    obtain rfl := Option.some.inj H
    go_wp2
    go_ret
    exact ⟨by first | rfl | (simp [errW_none, errW_some] <;> rfl) | (simp [*, errW_none, errW_some] <;> rfl), by repeat (first | (with_reducible first | exact HB.out | apply zg | apply zd | apply zh) | exact HB.out)⟩
   ·replace c5 := Bool.eq_false_iff.mpr c5
    subst c5
    have H1 : ((spec_DrawEncodeSuper.f kj2 l0).bind fun bt256 => ((spec_DrawEncodeSuper.f kj2 l1).bind fun bt262 => ((impl_EncodeSuper.f kj2 bt256.1 bt256.2.1 bt256.2.2.1 bt256.2.2.2.1 bt256.2.2.2.2).bind fun t268 => ((impl_EncodeSuper.f kj2 bt262.1 bt262.2.1 bt262.2.2.1 bt262.2.2.2.1 bt262.2.2.2.2).bind fun t271 => ((spec_EncodeSuper.f kj2 bt256.1 bt256.2.1 bt256.2.2.1 bt256.2.2.2.1 bt256.2.2.2.2).bind fun t274 => (if (t274.length : Int) = 0 then (laws_FnTornSuper.j1 kj2 t268 t271 true bt256.1 bt256.2.1 bt256.2.2.1 bt256.2.2.2.1 bt256.2.2.2.2 bt262.1 bt262.2.1 bt262.2.2.1 bt262.2.2.2.1 bt262.2.2.2.2) else ((spec_EncodeSuper.f kj2 bt262.1 bt262.2.1 bt262.2.2.1 bt262.2.2.2.1 bt262.2.2.2.2).bind fun t277 => (laws_FnTornSuper.j1 kj2 t268 t271 ((t277.length : Int) == 0) bt256.1 bt256.2.1 bt256.2.2.1 bt256.2.2.2.1 bt256.2.2.2.2 bt262.1 bt262.2.1 bt262.2.2.1 bt262.2.2.2.1 bt262.2.2.2.2)))))))) = some r := by rw [if_neg (show ¬ (false = true) by decide)] at H; exact H
    clear H
    have H := H1
    clear H1
    replace H := Option.bind_eq_some_iff.mp H
    obtain ⟨⟨t256, t257, t258, t259, t260⟩, A60, H⟩ := H
    replace H : ((spec_DrawEncodeSuper.f kj2 l1).bind fun bt262 => ((impl_EncodeSuper.f kj2 t256 t257 t258 t259 t260).bind fun t268 => ((impl_EncodeSuper.f kj2 bt262.1 bt262.2.1 bt262.2.2.1 bt262.2.2.2.1 bt262.2.2.2.2).bind fun t271 => ((spec_EncodeSuper.f kj2 t256 t257 t258 t259 t260).bind fun t274 => (if (t274.length : Int) = 0 then (laws_FnTornSuper.j1 kj2 t268 t271 true t256 t257 t258 t259 t260 bt262.1 bt262.2.1 bt262.2.2.1 bt262.2.2.2.1 bt262.2.2.2.2) else ((spec_EncodeSuper.f kj2 bt262.1 bt262.2.1 bt262.2.2.1 bt262.2.2.2.1 bt262.2.2.2.2).bind fun t277 => (laws_FnTornSuper.j1 kj2 t268 t271 ((t277.length : Int) == 0) t256 t257 t258 t259 t260 bt262.1 bt262.2.1 bt262.2.2.1 bt262.2.2.2.1 bt262.2.2.2.2))))))) = some r := H
    have A6 := Aside0.mk A60
    clear A60
    replace H := Option.bind_eq_some_iff.mp H
    obtain ⟨⟨t262, t263, t264, t265, t266⟩, A70, H⟩ := H
    replace H : ((impl_EncodeSuper.f kj2 t256 t257 t258 t259 t260).bind fun t268 => ((impl_EncodeSuper.f kj2 t262 t263 t264 t265 t266).bind fun t271 => ((spec_EncodeSuper.f kj2 t256 t257 t258 t259 t260).bind fun t274 => (if (t274.length : Int) = 0 then (laws_FnTornSuper.j1 kj2 t268 t271 true t256 t257 t258 t259 t260 t262 t263 t264 t265 t266) else ((spec_EncodeSuper.f kj2 t262 t263 t264 t265 t266).bind fun t277 => (laws_FnTornSuper.j1 kj2 t268 t271 ((t277.length : Int) == 0) t256 t257 t258 t259 t260 t262 t263 t264 t265 t266)))))) = some r := H
    have A7 := Aside0.mk A70
    clear A70
    replace H := Option.bind_eq_some_iff.mp H
    obtain ⟨t268, A80, H⟩ := H
    replace H : ((impl_EncodeSuper.f kj2 t262 t263 t264 t265 t266).bind fun t271 => ((spec_EncodeSuper.f kj2 t256 t257 t258 t259 t260).bind fun t274 => (if (t274.length : Int) = 0 then (laws_FnTornSuper.j1 kj2 t268 t271 true t256 t257 t258 t259 t260 t262 t263 t264 t265 t266) else ((spec_EncodeSuper.f kj2 t262 t263 t264 t265 t266).bind fun t277 => (laws_FnTornSuper.j1 kj2 t268 t271 ((t277.length : Int) == 0) t256 t257 t258 t259 t260 t262 t263 t264 t265 t266))))) = some r := H
    have A8 := Aside0.mk A80
    clear A80
    replace H := Option.bind_eq_some_iff.mp H
    obtain ⟨t271, A90, H⟩ := H
    replace H : ((spec_EncodeSuper.f kj2 t256 t257 t258 t259 t260).bind fun t274 => (if (t274.length : Int) = 0 then (laws_FnTornSuper.j1 kj2 t268 t271 true t256 t257 t258 t259 t260 t262 t263 t264 t265 t266) else ((spec_EncodeSuper.f kj2 t262 t263 t264 t265 t266).bind fun t277 => (laws_FnTornSuper.j1 kj2 t268 t271 ((t277.length : Int) == 0) t256 t257 t258 t259 t260 t262 t263 t264 t265 t266)))) = some r := H
    have A9 := Aside0.mk A90
    clear A90
    have HC10 := Aside0.mk H
    clear H
    go_upto_region 7 with (first | ((with_reducible refine zo (f := 25) rfl ?_); refine goesL_ (some 21) rfl rfl Try.func25 (by kernel_rfl) rfl #[.slice A0 l0.length c0] rfl (by (try simp only [List.map_toArray, List.map_cons, List.map_nil]); first | done | rfl | (simp only [List.length_drop, List.length_take]; rfl)) ?_; (with_reducible refine (spec_DrawEncodeSuper.calls kj2 _ _ l0 t256 t257 t258 t259 t260 _ ?side1 ?side2 A6.out).mono ?_); (case side1 => repeat (first | exact (Kd.C_below HR0.out HB.out) | (with_reducible refine Kd.C_alloc ?_ _) | (with_reducible refine Kd.C_drewN ?_ _) | (with_reducible refine Kd.C_drew ?_))); (case side2 => exact HC0.out); rintro e w11 ⟨rfl, hb⟩; refine ⟨_, rfl, ?_⟩; have n0_ := Aside0.mk (zl (by repeat (first | (with_reducible first | exact HB.out | apply zg | apply zd | apply zh) | exact HB.out)) hb); clear HB; have HB := n0_; clear n0_; (try clear hb); (try clear hb2); (try clear hk); (try clear hi)) | ((with_reducible refine zu (N := 5) rfl ?_); (try (refine gate_guard (by rfl) ?_; dsimp only)); refine zy ?hg (N := 5) ?hd (cs := #[.int .i64 0, .int .i64 0, .int .i64 0, .int .i64 0, .int .i64 0]) (t := 52) ?hr ?_; (case hd => rfl); (case hg => rfl); (case hr => first | (go_simp; done) | (go_simp; rfl)); intro zF hg w12 hbox hb; have n0_ := Aside0.mk (zl (by repeat (first | (with_reducible first | exact HB.out | apply zg | apply zd | apply zh) | exact HB.out)) hb); have n1_ := Aside0.mk (hbox); have n2_ := Aside0.mk ((by rw [hg]; exact (zk (by repeat (first | (with_reducible first | exact HB.out | apply zg | apply zd | apply zh) | exact HB.out))) : w.heap.size ≤ zF)); have n3_ := Aside0.mk ((by rw [hg]; exact (zk (by repeat (first | (with_reducible first | exact HB.out | apply zg | apply zd | apply zh) | exact HB.out))) : w.heap.size ≤ zF)); clear HB; have HB := n0_; have zz := n1_; have GW261 := n2_; have zH := n3_; clear n0_ n1_ n2_ n3_; clear hb hbox hg; have zV : w12.cell? ⟨zF, 0, none⟩ = some (.int .i64 0) := (zc zz.out 0).trans rfl; have zW : w12.cell? ⟨zF, 1, none⟩ = some (.int .i64 0) := (zc zz.out 1).trans rfl; have zX : w12.cell? ⟨zF, 2, none⟩ = some (.int .i64 0) := (zc zz.out 2).trans rfl; have zY : w12.cell? ⟨zF, 3, none⟩ = some (.int .i64 0) := (zc zz.out 3).trans rfl; have zZ : w12.cell? ⟨zF, 4, none⟩ = some (.int .i64 0) := (zc zz.out 4).trans rfl; have zab := zb zz.out 0; have zbb := zb zz.out 1; have zcb := zb zz.out 2; have zdb := zb zz.out 3; have zeb := zb zz.out 4) | ((with_reducible refine zo (f := 25) rfl ?_); refine goesL_ (some 23) rfl rfl Try.func25 (by kernel_rfl) rfl #[.slice A1 l1.length c1] rfl (by (try simp only [List.map_toArray, List.map_cons, List.map_nil]); first | done | rfl | (simp only [List.length_drop, List.length_take]; rfl)) ?_; (with_reducible refine (spec_DrawEncodeSuper.calls kj2 _ _ l1 t262 t263 t264 t265 t266 _ ?side1 ?side2 A7.out).mono ?_); (case side1 => exact Kd.C_below HR1.out (by repeat (first | (with_reducible first | exact HB.out | apply zg | apply zd | apply zh | refine zj ?_ zH.out) | exact HB.out))); (case side2 => exact HC1.out); rintro e w14 ⟨rfl, hb⟩; refine ⟨_, rfl, ?_⟩; have n0_ := Aside0.mk (zr (g := zF) (o := .cells #[.int .i64 t256, .int .i64 t257, .int .i64 t258, .int .i64 t259, .int .i64 t260] 52 (0, 0)) (by (with_reducible repeat (first | refine zf ?_ _ | refine zi ?_ | refine ze ?_ _)); refine zn (cs := #[.int .i64 t256, .int .i64 t257, .int .i64 t258, .int .i64 t259, .int .i64 0]) ?_ 4 _ rfl; (with_reducible repeat (first | refine zf ?_ _ | refine zi ?_ | refine ze ?_ _)); refine zn (cs := #[.int .i64 t256, .int .i64 t257, .int .i64 t258, .int .i64 0, .int .i64 0]) ?_ 3 _ rfl; (with_reducible repeat (first | refine zf ?_ _ | refine zi ?_ | refine ze ?_ _)); refine zn (cs := #[.int .i64 t256, .int .i64 t257, .int .i64 0, .int .i64 0, .int .i64 0]) ?_ 2 _ rfl; (with_reducible repeat (first | refine zf ?_ _ | refine zi ?_ | refine ze ?_ _)); refine zn (cs := #[.int .i64 t256, .int .i64 0, .int .i64 0, .int .i64 0, .int .i64 0]) ?_ 1 _ rfl; (with_reducible repeat (first | refine zf ?_ _ | refine zi ?_ | refine ze ?_ _)); refine zn (cs := #[.int .i64 0, .int .i64 0, .int .i64 0, .int .i64 0, .int .i64 0]) ?_ 0 _ rfl; (with_reducible repeat (first | refine zf ?_ _ | refine zi ?_ | refine ze ?_ _)); exact zz.out) hb); have n1_ := Aside0.mk (zl (by repeat (first | (with_reducible first | exact HB.out | apply zg | apply zd | apply zh | refine zj ?_ zH.out) | exact HB.out)) hb); clear zz; clear HB; have zz := n0_; have HB := n1_; clear n0_ n1_; (try clear hb); (try clear hb2); (try clear hk); (try clear hi)) | ((with_reducible refine zu (N := 6) rfl ?_); (try (refine gate_guard (by rfl) ?_; dsimp only)); refine zy ?hg (N := 6) ?hd (cs := #[.int .i64 0, .int .i64 0, .int .i64 0, .int .i64 0, .int .i64 0]) (t := 52) ?hr ?_; (case hd => rfl); (case hg => rfl); (case hr => first | (go_simp; done) | (go_simp; rfl)); intro zG hg w15 hbox hb; have n0_ := Aside0.mk (zr (g := zF) (o := .cells #[.int .i64 t256, .int .i64 t257, .int .i64 t258, .int .i64 t259, .int .i64 t260] 52 (0, 0)) (by (with_reducible repeat (first | refine zf ?_ _ | refine zi ?_ | refine ze ?_ _)); exact zz.out) hb); have n1_ := Aside0.mk (zl (by repeat (first | (with_reducible first | exact HB.out | apply zg | apply zd | apply zh | refine zj ?_ zH.out) | exact HB.out)) hb); have n2_ := Aside0.mk (hbox); have n3_ := Aside0.mk ((by rw [hg]; exact (zk (by repeat (first | (with_reducible first | exact HB.out | apply zg | apply zd | apply zh | refine zj ?_ zH.out) | exact HB.out))) : w.heap.size ≤ zG)); have n4_ := Aside0.mk ((by rw [hg]; exact (zk (by repeat (first | (with_reducible first | exact HB.out | apply zg | apply zd | apply zh | refine zj ?_ zH.out) | exact HB.out))) : w.heap.size ≤ zG)); have n5_ := Aside0.mk ((by rw [hg]; exact Nat.ne_of_lt (blk_lt (g := zF) (o := .cells #[.int .i64 t256, .int .i64 t257, .int .i64 t258, .int .i64 t259, .int .i64 t260] 52 (0, 0)) (by (with_reducible repeat (first | refine zf ?_ _ | refine zi ?_ | refine ze ?_ _)); exact zz.out)) : zF ≠ zG)); have n6_ := Aside0.mk ((by rw [hg]; exact Nat.ne_of_gt (blk_lt (g := zF) (o := .cells #[.int .i64 t256, .int .i64 t257, .int .i64 t258, .int .i64 t259, .int .i64 t260] 52 (0, 0)) (by (with_reducible repeat (first | refine zf ?_ _ | refine zi ?_ | refine ze ?_ _)); exact zz.out)) : zG ≠ zF)); clear zz; clear HB; have zz := n0_; have HB := n1_; have zA := n2_; have GW267 := n3_; have zI := n4_; have zJ := n5_; have zM := n6_; clear n0_ n1_ n2_ n3_ n4_ n5_ n6_; clear hb hbox hg; have zXi := zM.out; have zYi := zJ.out; have zfb : w15.cell? ⟨zG, 0, none⟩ = some (.int .i64 0) := (zc zA.out 0).trans rfl; have zgb : w15.cell? ⟨zG, 1, none⟩ = some (.int .i64 0) := (zc zA.out 1).trans rfl; have zhb : w15.cell? ⟨zG, 2, none⟩ = some (.int .i64 0) := (zc zA.out 2).trans rfl; have zib : w15.cell? ⟨zG, 3, none⟩ = some (.int .i64 0) := (zc zA.out 3).trans rfl; have zjb : w15.cell? ⟨zG, 4, none⟩ = some (.int .i64 0) := (zc zA.out 4).trans rfl; have zkb := zb zA.out 0; have zlb := zb zA.out 1; have zmb := zb zA.out 2; have znb := zb zA.out 3; have zob := zb zA.out 4; have zpb : w15.cell? ⟨zF, 0, none⟩ = some (.int .i64 t256) := (zc zz.out 0).trans rfl; have zqb : w15.cell? ⟨zF, 1, none⟩ = some (.int .i64 t257) := (zc zz.out 1).trans rfl; have zrb : w15.cell? ⟨zF, 2, none⟩ = some (.int .i64 t258) := (zc zz.out 2).trans rfl; have zsb : w15.cell? ⟨zF, 3, none⟩ = some (.int .i64 t259) := (zc zz.out 3).trans rfl; have ztb : w15.cell? ⟨zF, 4, none⟩ = some (.int .i64 t260) := (zc zz.out 4).trans rfl; have zub := zb zz.out 0; have zvb := zb zz.out 1; have zwb := zb zz.out 2; have zxb := zb zz.out 3; have zyb := zb zz.out 4) | ((with_reducible refine zo (f := 26) rfl ?_); refine goesL_ (some 25) rfl rfl Try.func26 (by kernel_rfl) rfl #[.agg #[.int .i64 t256, .int .i64 t257, .int .i64 t258, .int .i64 t259, .int .i64 t260]] rfl (by (try simp only [List.map_toArray, List.map_cons, List.map_nil]); first | done | rfl | (simp only [List.length_drop, List.length_take]; rfl)) ?_; (with_reducible refine (impl_EncodeSuper.calls kj2 t256 t257 t258 t259 t260 t268 _ A8.out).mono ?_); rintro e w19 ⟨v269, rfl, zN, hb⟩; refine ⟨_, rfl, ?_⟩; have n0_ := Aside0.mk (Kd.R_lower zN (zk (by repeat (first | (with_reducible first | exact HB.out | apply zg | apply zd | apply zh | refine zj ?_ zH.out | refine zj ?_ zI.out) | exact HB.out)))); have n1_ := Aside0.mk (zr (g := zF) (o := .cells #[.int .i64 t256, .int .i64 t257, .int .i64 t258, .int .i64 t259, .int .i64 t260] 52 (0, 0)) (by (with_reducible repeat (first | refine zf ?_ _ | refine zi ?_ | refine ze ?_ _)); refine zm ?_ zJ.out _; (with_reducible repeat (first | refine zf ?_ _ | refine zi ?_ | refine ze ?_ _)); refine zm ?_ zJ.out _; (with_reducible repeat (first | refine zf ?_ _ | refine zi ?_ | refine ze ?_ _)); refine zm ?_ zJ.out _; (with_reducible repeat (first | refine zf ?_ _ | refine zi ?_ | refine ze ?_ _)); refine zm ?_ zJ.out _; (with_reducible repeat (first | refine zf ?_ _ | refine zi ?_ | refine ze ?_ _)); refine zm ?_ zJ.out _; (with_reducible repeat (first | refine zf ?_ _ | refine zi ?_ | refine ze ?_ _)); exact zz.out) hb); have n2_ := Aside0.mk (zr (g := zG) (o := .cells #[.int .i64 t262, .int .i64 t263, .int .i64 t264, .int .i64 t265, .int .i64 t266] 52 (0, 0)) (by (with_reducible repeat (first | refine zf ?_ _ | refine zi ?_ | refine ze ?_ _)); refine zn (cs := #[.int .i64 t262, .int .i64 t263, .int .i64 t264, .int .i64 t265, .int .i64 0]) ?_ 4 _ rfl; (with_reducible repeat (first | refine zf ?_ _ | refine zi ?_ | refine ze ?_ _)); refine zn (cs := #[.int .i64 t262, .int .i64 t263, .int .i64 t264, .int .i64 0, .int .i64 0]) ?_ 3 _ rfl; (with_reducible repeat (first | refine zf ?_ _ | refine zi ?_ | refine ze ?_ _)); refine zn (cs := #[.int .i64 t262, .int .i64 t263, .int .i64 0, .int .i64 0, .int .i64 0]) ?_ 2 _ rfl; (with_reducible repeat (first | refine zf ?_ _ | refine zi ?_ | refine ze ?_ _)); refine zn (cs := #[.int .i64 t262, .int .i64 0, .int .i64 0, .int .i64 0, .int .i64 0]) ?_ 1 _ rfl; (with_reducible repeat (first | refine zf ?_ _ | refine zi ?_ | refine ze ?_ _)); refine zn (cs := #[.int .i64 0, .int .i64 0, .int .i64 0, .int .i64 0, .int .i64 0]) ?_ 0 _ rfl; (with_reducible repeat (first | refine zf ?_ _ | refine zi ?_ | refine ze ?_ _)); exact zA.out) hb); have n3_ := Aside0.mk (zl (by repeat (first | (with_reducible first | exact HB.out | apply zg | apply zd | apply zh | refine zj ?_ zH.out | refine zj ?_ zI.out) | exact HB.out)) hb); clear zz; clear zA; clear HB; have zQ := n0_; have zz := n1_; have zA := n2_; have HB := n3_; clear n0_ n1_ n2_ n3_; (try clear hb); (try clear hb2); (try clear hk); (try clear hi); (try clear zN); have zzb : w19.cell? ⟨zG, 0, none⟩ = some (.int .i64 t262) := (zc zA.out 0).trans rfl; have zAb : w19.cell? ⟨zG, 1, none⟩ = some (.int .i64 t263) := (zc zA.out 1).trans rfl; have zBb : w19.cell? ⟨zG, 2, none⟩ = some (.int .i64 t264) := (zc zA.out 2).trans rfl; have zCb : w19.cell? ⟨zG, 3, none⟩ = some (.int .i64 t265) := (zc zA.out 3).trans rfl; have zDb : w19.cell? ⟨zG, 4, none⟩ = some (.int .i64 t266) := (zc zA.out 4).trans rfl; have zEb := zb zA.out 0; have zFb := zb zA.out 1; have zGb := zb zA.out 2; have zHb := zb zA.out 3; have zIb := zb zA.out 4) | ((with_reducible refine zo (f := 26) rfl ?_); refine goesL_ (some 27) rfl rfl Try.func26 (by kernel_rfl) rfl #[.agg #[.int .i64 t262, .int .i64 t263, .int .i64 t264, .int .i64 t265, .int .i64 t266]] rfl (by (try simp only [List.map_toArray, List.map_cons, List.map_nil]); first | done | rfl | (simp only [List.length_drop, List.length_take]; rfl)) ?_; (with_reducible refine (impl_EncodeSuper.calls kj2 t262 t263 t264 t265 t266 t271 _ A9.out).mono ?_); rintro e w21 ⟨v272, rfl, zN, hb⟩; refine ⟨_, rfl, ?_⟩; have n0_ := Aside0.mk (Kd.R_elder' (by (with_reducible repeat (first | apply Kd.R_alloc | apply Kd.R_drewN | apply Kd.R_drew)); exact zQ.out) (Kd.R_base zN) hb); have n1_ := Aside0.mk (Kd.R_lower (Kd.R_new' zN (Kd.R_lt (by (with_reducible repeat (first | apply Kd.R_alloc | apply Kd.R_drewN | apply Kd.R_drew)); exact zQ.out))) (zk (by repeat (first | (with_reducible first | exact HB.out | apply zg | apply zd | apply zh | refine zj ?_ zH.out | refine zj ?_ zI.out) | exact HB.out)))); have n2_ := Aside0.mk (zr (g := zF) (o := .cells #[.int .i64 t256, .int .i64 t257, .int .i64 t258, .int .i64 t259, .int .i64 t260] 52 (0, 0)) (by (with_reducible repeat (first | refine zf ?_ _ | refine zi ?_ | refine ze ?_ _)); exact zz.out) hb); have n3_ := Aside0.mk (zr (g := zG) (o := .cells #[.int .i64 t262, .int .i64 t263, .int .i64 t264, .int .i64 t265, .int .i64 t266] 52 (0, 0)) (by (with_reducible repeat (first | refine zf ?_ _ | refine zi ?_ | refine ze ?_ _)); exact zA.out) hb); have n4_ := Aside0.mk (zl (by repeat (first | (with_reducible first | exact HB.out | apply zg | apply zd | apply zh | refine zj ?_ zH.out | refine zj ?_ zI.out) | exact HB.out)) hb); clear zQ; clear zz; clear zA; clear HB; have zQ := n0_; have zR := n1_; have zz := n2_; have zA := n3_; have HB := n4_; clear n0_ n1_ n2_ n3_ n4_; (try clear hb); (try clear hb2); (try clear hk); (try clear hi); (try clear zN)))
    (try simp only [Act.put, List.setIfInBounds_toArray, List.set_cons_zero, List.set_cons_succ])
    go_cut [37] (fun v37 wc => ∃ (kq : Nat) (x37_9 : Bool), v37 = .bool x37_9 ∧ Aside0 (laws_FnTornSuper.j1 kq t268 t271 x37_9 t256 t257 t258 t259 t260 t262 t263 t264 t265 t266 = some r) ∧ Aside0 (kq ≤ kj2) ∧ Aside0 (Kd.R (Kd.int .u8) 76 wc w.heap.size (fun k_ => some k_ ≠ (v272 : Value).ownBlock) v269 t268) ∧ Aside0 (Kd.R (Kd.int .u8) 76 wc w.heap.size (fun k_ => some k_ ≠ (v269 : Value).ownBlock) v272 t271) ∧ Aside0 (wc.heap[zF]? = some (.cells #[.int .i64 t256, .int .i64 t257, .int .i64 t258, .int .i64 t259, .int .i64 t260] 52 (0, 0))) ∧ Aside0 (wc.heap[zG]? = some (.cells #[.int .i64 t262, .int .i64 t263, .int .i64 t264, .int .i64 t265, .int .i64 t266] 52 (0, 0))) ∧ Aside0 (Below w.heap.size w wc))
    case first =>
     have H := HC10.out
     clear HC10
     replace H := Option.bind_eq_some_iff.mp H
     obtain ⟨t274, A220, H⟩ := H
     replace H : (if (t274.length : Int) = 0 then (laws_FnTornSuper.j1 kj2 t268 t271 true t256 t257 t258 t259 t260 t262 t263 t264 t265 t266) else ((spec_EncodeSuper.f kj2 t262 t263 t264 t265 t266).bind fun t277 => (laws_FnTornSuper.j1 kj2 t268 t271 ((t277.length : Int) == 0) t256 t257 t258 t259 t260 t262 t263 t264 t265 t266))) = some r := H
     have A22 := Aside0.mk A220
     clear A220
     by_cases c23 : (t274.length : Int) = 0
     ·rw [if_pos c23] at H
      have c23b0 : ((t274.length : Int) == 0) = true := beq_iff_eq.mpr c23
      have c23b1 : ((t274.length : Int) != 0) = false := bne_eq_false_iff_eq.mpr c23
      clear c23
      (first | rw [c23b0] | (simp only [zv, zx]; rw [c23b0]) | skip)
      have H' := Aside0.mk H
      clear H
      have zZi := zJ.out
      have zaj := zM.out
      have zJb : w21.cell? ⟨zF, 0, none⟩ = some (.int .i64 t256) := (zc zz.out 0).trans rfl
      have zKb : w21.cell? ⟨zF, 1, none⟩ = some (.int .i64 t257) := (zc zz.out 1).trans rfl
      have zLb : w21.cell? ⟨zF, 2, none⟩ = some (.int .i64 t258) := (zc zz.out 2).trans rfl
      have zMb : w21.cell? ⟨zF, 3, none⟩ = some (.int .i64 t259) := (zc zz.out 3).trans rfl
      have zNb : w21.cell? ⟨zF, 4, none⟩ = some (.int .i64 t260) := (zc zz.out 4).trans rfl
      have zOb := zb zz.out 0
      have zPb := zb zz.out 1
      have zQb := zb zz.out 2
      have zRb := zb zz.out 3
      have zSb := zb zz.out 4
      go_wp2_with (first | ((with_reducible refine zo (f := 27) rfl ?_); refine goesL_ (some 29) rfl rfl Try.func27 (by kernel_rfl) rfl #[.agg #[.int .i64 t256, .int .i64 t257, .int .i64 t258, .int .i64 t259, .int .i64 t260]] rfl (by (try simp only [List.map_toArray, List.map_cons, List.map_nil]); first | done | rfl | (simp only [List.length_drop, List.length_take]; rfl)) ?_; (with_reducible refine (spec_EncodeSuper.calls kj2 t256 t257 t258 t259 t260 t274 _ A22.out).mono ?_); rintro e w26 ⟨v275, rfl, zN, hb⟩; refine ⟨_, rfl, ?_⟩; have n0_ := Aside0.mk (Kd.R_elder' (by (with_reducible repeat (first | apply Kd.R_alloc | apply Kd.R_drewN | apply Kd.R_drew)); exact zQ.out) (Kd.R_base zN) hb); have n1_ := Aside0.mk (Kd.R_elder' (by (with_reducible repeat (first | apply Kd.R_alloc | apply Kd.R_drewN | apply Kd.R_drew)); exact zR.out) (Kd.R_base zN) hb); have n2_ := Aside0.mk (Kd.R_lower (Kd.R_new' (Kd.R_new' zN (Kd.R_lt (by (with_reducible repeat (first | apply Kd.R_alloc | apply Kd.R_drewN | apply Kd.R_drew)); exact zQ.out))) (Kd.R_lt (by (with_reducible repeat (first | apply Kd.R_alloc | apply Kd.R_drewN | apply Kd.R_drew)); exact zR.out))) (zk (by repeat (first | (with_reducible first | exact HB.out | apply zg | apply zd | apply zh | refine zj ?_ zH.out | refine zj ?_ zI.out) | exact HB.out)))); have n3_ := Aside0.mk (zr (g := zF) (o := .cells #[.int .i64 t256, .int .i64 t257, .int .i64 t258, .int .i64 t259, .int .i64 t260] 52 (0, 0)) (by (with_reducible repeat (first | refine zf ?_ _ | refine zi ?_ | refine ze ?_ _)); exact zz.out) hb); have n4_ := Aside0.mk (zr (g := zG) (o := .cells #[.int .i64 t262, .int .i64 t263, .int .i64 t264, .int .i64 t265, .int .i64 t266] 52 (0, 0)) (by (with_reducible repeat (first | refine zf ?_ _ | refine zi ?_ | refine ze ?_ _)); exact zA.out) hb); have n5_ := Aside0.mk (zl (by repeat (first | (with_reducible first | exact HB.out | apply zg | apply zd | apply zh | refine zj ?_ zH.out | refine zj ?_ zI.out) | exact HB.out)) hb); clear zQ; clear zR; clear zz; clear zA; clear HB; have zQ := n0_; have zR := n1_; have zT := n2_; have zz := n3_; have zA := n4_; have HB := n5_; clear n0_ n1_ n2_ n3_ n4_ n5_; (try clear hb); (try clear hb2); (try clear hk); (try clear hi); (try clear zN); obtain ⟨Ao27, co27, eo27⟩ := Kd.R_slice zT.out; subst eo27))
      go_meet
      case rel => exact ⟨_, (true), (by first | rfl | (simp; done) | (simp [*]; done)), H', ⟨by have := HJ2.out; first | omega | exact Nat.le_refl _⟩, ⟨by (with_reducible repeat (first | apply Kd.R_alloc | apply Kd.R_drewN | apply Kd.R_drew)); exact Kd.R_mono zQ.out (fun _ hk => hk.1.2)⟩, ⟨by (with_reducible repeat (first | apply Kd.R_alloc | apply Kd.R_drewN | apply Kd.R_drew)); exact Kd.R_mono zR.out (fun _ hk => hk.1.2)⟩, ⟨by (with_reducible repeat (first | refine zf ?_ _ | refine zi ?_ | refine ze ?_ _)); exact zz.out⟩, ⟨by (with_reducible repeat (first | refine zf ?_ _ | refine zi ?_ | refine ze ?_ _)); exact zA.out⟩, ⟨by repeat (first | (with_reducible first | exact HB.out | apply zg | apply zd | apply zh | refine zj ?_ zH.out | refine zj ?_ zI.out) | exact HB.out)⟩⟩
     ·rw [if_neg c23] at H
      have c23b0 : ((t274.length : Int) == 0) = false := beq_eq_false_iff_ne.mpr c23
      have c23b1 : ((t274.length : Int) != 0) = true := bne_iff_ne.mpr c23
      have c23b2 : ¬ (t274 = []) := fun h_ => c23 (by rw [h_]; rfl)
      (first | rw [c23b0] | (simp only [zv, zx]; rw [c23b0]) | skip)
      replace H := Option.bind_eq_some_iff.mp H
      obtain ⟨t277, A280, H⟩ := H
      replace H : (laws_FnTornSuper.j1 kj2 t268 t271 ((t277.length : Int) == 0) t256 t257 t258 t259 t260 t262 t263 t264 t265 t266) = some r := H
      have A28 := Aside0.mk A280
      clear A280
      have H' := Aside0.mk H
      clear H
      have zbj := zJ.out
      have zcj := zM.out
      have zTb : w21.cell? ⟨zF, 0, none⟩ = some (.int .i64 t256) := (zc zz.out 0).trans rfl
      have zUb : w21.cell? ⟨zF, 1, none⟩ = some (.int .i64 t257) := (zc zz.out 1).trans rfl
      have zVb : w21.cell? ⟨zF, 2, none⟩ = some (.int .i64 t258) := (zc zz.out 2).trans rfl
      have zWb : w21.cell? ⟨zF, 3, none⟩ = some (.int .i64 t259) := (zc zz.out 3).trans rfl
      have zXb : w21.cell? ⟨zF, 4, none⟩ = some (.int .i64 t260) := (zc zz.out 4).trans rfl
      have zYb := zb zz.out 0
      have zZb := zb zz.out 1
      have zac := zb zz.out 2
      have zbc := zb zz.out 3
      have zcc := zb zz.out 4
      go_wp2_with (first | ((with_reducible refine zo (f := 27) rfl ?_); refine goesL_ (some 29) rfl rfl Try.func27 (by kernel_rfl) rfl #[.agg #[.int .i64 t256, .int .i64 t257, .int .i64 t258, .int .i64 t259, .int .i64 t260]] rfl (by (try simp only [List.map_toArray, List.map_cons, List.map_nil]); first | done | rfl | (simp only [List.length_drop, List.length_take]; rfl)) ?_; (with_reducible refine (spec_EncodeSuper.calls kj2 t256 t257 t258 t259 t260 t274 _ A22.out).mono ?_); rintro e w31 ⟨v275, rfl, zN, hb⟩; refine ⟨_, rfl, ?_⟩; have n0_ := Aside0.mk (Kd.R_elder' (by (with_reducible repeat (first | apply Kd.R_alloc | apply Kd.R_drewN | apply Kd.R_drew)); exact zQ.out) (Kd.R_base zN) hb); have n1_ := Aside0.mk (Kd.R_elder' (by (with_reducible repeat (first | apply Kd.R_alloc | apply Kd.R_drewN | apply Kd.R_drew)); exact zR.out) (Kd.R_base zN) hb); have n2_ := Aside0.mk (Kd.R_lower (Kd.R_new' (Kd.R_new' zN (Kd.R_lt (by (with_reducible repeat (first | apply Kd.R_alloc | apply Kd.R_drewN | apply Kd.R_drew)); exact zQ.out))) (Kd.R_lt (by (with_reducible repeat (first | apply Kd.R_alloc | apply Kd.R_drewN | apply Kd.R_drew)); exact zR.out))) (zk (by repeat (first | (with_reducible first | exact HB.out | apply zg | apply zd | apply zh | refine zj ?_ zH.out | refine zj ?_ zI.out) | exact HB.out)))); have n3_ := Aside0.mk (zr (g := zF) (o := .cells #[.int .i64 t256, .int .i64 t257, .int .i64 t258, .int .i64 t259, .int .i64 t260] 52 (0, 0)) (by (with_reducible repeat (first | refine zf ?_ _ | refine zi ?_ | refine ze ?_ _)); exact zz.out) hb); have n4_ := Aside0.mk (zr (g := zG) (o := .cells #[.int .i64 t262, .int .i64 t263, .int .i64 t264, .int .i64 t265, .int .i64 t266] 52 (0, 0)) (by (with_reducible repeat (first | refine zf ?_ _ | refine zi ?_ | refine ze ?_ _)); exact zA.out) hb); have n5_ := Aside0.mk (zl (by repeat (first | (with_reducible first | exact HB.out | apply zg | apply zd | apply zh | refine zj ?_ zH.out | refine zj ?_ zI.out) | exact HB.out)) hb); clear zQ; clear zR; clear zz; clear zA; clear HB; have zQ := n0_; have zR := n1_; have zT := n2_; have zz := n3_; have zA := n4_; have HB := n5_; clear n0_ n1_ n2_ n3_ n4_ n5_; (try clear hb); (try clear hb2); (try clear hk); (try clear hi); (try clear zN); obtain ⟨Ao32, co32, eo32⟩ := Kd.R_slice zT.out; subst eo32; have zdc : w31.cell? ⟨zG, 0, none⟩ = some (.int .i64 t262) := (zc zA.out 0).trans rfl; have zec : w31.cell? ⟨zG, 1, none⟩ = some (.int .i64 t263) := (zc zA.out 1).trans rfl; have zfc : w31.cell? ⟨zG, 2, none⟩ = some (.int .i64 t264) := (zc zA.out 2).trans rfl; have zgc : w31.cell? ⟨zG, 3, none⟩ = some (.int .i64 t265) := (zc zA.out 3).trans rfl; have zhc : w31.cell? ⟨zG, 4, none⟩ = some (.int .i64 t266) := (zc zA.out 4).trans rfl; have zic := zb zA.out 0; have zjc := zb zA.out 1; have zkc := zb zA.out 2; have zlc := zb zA.out 3; have zmc := zb zA.out 4) | (go_at_call 27; (with_reducible refine (spec_EncodeSuper.calls kj2 t262 t263 t264 t265 t266 t277 _ A28.out).mono ?_); rintro e w34 ⟨v278, rfl, zN, hb⟩; have n0_ := Aside0.mk (Kd.R_elder' (by (with_reducible repeat (first | apply Kd.R_alloc | apply Kd.R_drewN | apply Kd.R_drew)); exact zQ.out) (Kd.R_base zN) hb); have n1_ := Aside0.mk (Kd.R_elder' (by (with_reducible repeat (first | apply Kd.R_alloc | apply Kd.R_drewN | apply Kd.R_drew)); exact zR.out) (Kd.R_base zN) hb); have n2_ := Aside0.mk (Kd.R_elder' (by (with_reducible repeat (first | apply Kd.R_alloc | apply Kd.R_drewN | apply Kd.R_drew)); exact zT.out) (Kd.R_base zN) hb); have n3_ := Aside0.mk (Kd.R_lower (Kd.R_new' (Kd.R_new' (Kd.R_new' zN (Kd.R_lt (by (with_reducible repeat (first | apply Kd.R_alloc | apply Kd.R_drewN | apply Kd.R_drew)); exact zQ.out))) (Kd.R_lt (by (with_reducible repeat (first | apply Kd.R_alloc | apply Kd.R_drewN | apply Kd.R_drew)); exact zR.out))) (Kd.R_lt (by (with_reducible repeat (first | apply Kd.R_alloc | apply Kd.R_drewN | apply Kd.R_drew)); exact zT.out))) (zk (by repeat (first | (with_reducible first | exact HB.out | apply zg | apply zd | apply zh | refine zj ?_ zH.out | refine zj ?_ zI.out) | exact HB.out)))); have n4_ := Aside0.mk (zr (g := zF) (o := .cells #[.int .i64 t256, .int .i64 t257, .int .i64 t258, .int .i64 t259, .int .i64 t260] 52 (0, 0)) (by (with_reducible repeat (first | refine zf ?_ _ | refine zi ?_ | refine ze ?_ _)); exact zz.out) hb); have n5_ := Aside0.mk (zr (g := zG) (o := .cells #[.int .i64 t262, .int .i64 t263, .int .i64 t264, .int .i64 t265, .int .i64 t266] 52 (0, 0)) (by (with_reducible repeat (first | refine zf ?_ _ | refine zi ?_ | refine ze ?_ _)); exact zA.out) hb); have n6_ := Aside0.mk (zl (by repeat (first | (with_reducible first | exact HB.out | apply zg | apply zd | apply zh | refine zj ?_ zH.out | refine zj ?_ zI.out) | exact HB.out)) hb); clear zQ; clear zR; clear zT; clear zz; clear zA; clear HB; have zQ := n0_; have zR := n1_; have zT := n2_; have zvf := n3_; have zz := n4_; have zA := n5_; have HB := n6_; clear n0_ n1_ n2_ n3_ n4_ n5_ n6_; (try clear hb); (try clear hb2); (try clear hk); (try clear hi); (try clear zN); obtain ⟨Ao35, co35, eo35⟩ := Kd.R_slice zvf.out; subst eo35))
      go_meet
      case rel => exact ⟨_, (((t277.length : Int) == 0)), (by first | rfl | (simp; done) | (simp [*]; done)), H', ⟨by have := HJ2.out; first | omega | exact Nat.le_refl _⟩, ⟨by (with_reducible repeat (first | apply Kd.R_alloc | apply Kd.R_drewN | apply Kd.R_drew)); exact Kd.R_mono zQ.out (fun _ hk => hk.1.1.2)⟩, ⟨by (with_reducible repeat (first | apply Kd.R_alloc | apply Kd.R_drewN | apply Kd.R_drew)); exact Kd.R_mono zR.out (fun _ hk => hk.1.1.2)⟩, ⟨by (with_reducible repeat (first | refine zf ?_ _ | refine zi ?_ | refine ze ?_ _)); exact zz.out⟩, ⟨by (with_reducible repeat (first | refine zf ?_ _ | refine zi ?_ | refine ze ?_ _)); exact zA.out⟩, ⟨by repeat (first | (with_reducible first | exact HB.out | apply zg | apply zd | apply zh | refine zj ?_ zH.out | refine zj ?_ zI.out) | exact HB.out)⟩⟩
    case rest =>
     clear HC10
     try clear c1
     try clear c2
     try clear p2
     try clear c4
     try clear c4b0
     try clear c4b1
     try clear c5
     try clear c6
     try clear c16
     try clear c23
     try clear c23b0
     try clear c23b1
     try clear c23b2
     try clear c24
     try clear c25
     try clear c26
     try clear c27
     try clear c29
     try clear zV
     try clear zW
     try clear zX
     try clear zY
     try clear zZ
     try clear zfb
     try clear zgb
     try clear zhb
     try clear zib
     try clear zjb
     try clear zpb
     try clear zqb
     try clear zrb
     try clear zsb
     try clear ztb
     try clear zzb
     try clear zAb
     try clear zBb
     try clear zCb
     try clear zDb
     try clear zJb
     try clear zKb
     try clear zLb
     try clear zMb
     try clear zNb
     try clear zTb
     try clear zUb
     try clear zVb
     try clear zWb
     try clear zXb
     try clear zdc
     try clear zec
     try clear zfc
     try clear zgc
     try clear zhc
     try clear zab
     try clear zbb
     try clear zcb
     try clear zdb
     try clear zeb
     try clear zkb
     try clear zlb
     try clear zmb
     try clear znb
     try clear zob
     try clear zub
     try clear zvb
     try clear zwb
     try clear zxb
     try clear zyb
     try clear zEb
     try clear zFb
     try clear zGb
     try clear zHb
     try clear zIb
     try clear zOb
     try clear zPb
     try clear zQb
     try clear zRb
     try clear zSb
     try clear zYb
     try clear zZb
     try clear zac
     try clear zbc
     try clear zcc
     try clear zic
     try clear zjc
     try clear zkc
     try clear zlc
     try clear zmc
     try clear p2
     obtain ⟨kq, x37_9, rfl, HA, HJ9, zK, zL, zz, zA, HB⟩ := hcut
     cases kq with
     | zero => exact absurd HA.out (by simp [laws_FnTornSuper.j1])
     | succ kj9 =>
      have H := HA.out
      clear HA
      simp only [laws_FnTornSuper.j1] at H
      by_cases c36 : x37_9 = true
      ·subst c36
       have H1 : ((spec_EncodeSuper.f kj9 t256 t257 t258 t259 t260).bind fun t280 => (if (t268.length : Int) = (t280.length : Int) then ((spec_EncodeSuper.f kj9 t262 t263 t264 t265 t266).bind fun t283 => (some ((t271.length : Int) == (t283.length : Int)))) else (some false))) = some r := by rw [if_pos rfl] at H; exact H
       clear H
       have H := H1
       clear H1
       replace H := Option.bind_eq_some_iff.mp H
       obtain ⟨t280, A370, H⟩ := H
       replace H : (if (t268.length : Int) = (t280.length : Int) then ((spec_EncodeSuper.f kj9 t262 t263 t264 t265 t266).bind fun t283 => (some ((t271.length : Int) == (t283.length : Int)))) else (some false)) = some r := H
       have A37 := Aside0.mk A370
       clear A370
       by_cases c38 : (t268.length : Int) = (t280.length : Int)
       ·rw [if_pos c38] at H
        have c38b0 : ((t268.length : Int) == (t280.length : Int)) = true := beq_iff_eq.mpr c38
        have c38b1 : ((t268.length : Int) != (t280.length : Int)) = false := bne_eq_false_iff_eq.mpr c38
        have c38b2 : (t268.length == t280.length) = true := by first | simpa using c38 | (simp at c38 ⊢; omega)
        clear c38
        replace H := Option.bind_eq_some_iff.mp H
        obtain ⟨t283, A390, H⟩ := H
        replace H : (some ((t271.length : Int) == (t283.length : Int))) = some r := H
        have A39 := Aside0.mk A390
        clear A390
        obtain rfl := Option.some.inj H
        obtain ⟨Ao40, co40, eo40⟩ := Kd.R_slice zK.out
        subst eo40
        have zdj := zJ.out
        have zej := zM.out
        have znc : wc.cell? ⟨zF, 0, none⟩ = some (.int .i64 t256) := (zc zz.out 0).trans rfl
        have zoc : wc.cell? ⟨zF, 1, none⟩ = some (.int .i64 t257) := (zc zz.out 1).trans rfl
        have zpc : wc.cell? ⟨zF, 2, none⟩ = some (.int .i64 t258) := (zc zz.out 2).trans rfl
        have zqc : wc.cell? ⟨zF, 3, none⟩ = some (.int .i64 t259) := (zc zz.out 3).trans rfl
        have zrc : wc.cell? ⟨zF, 4, none⟩ = some (.int .i64 t260) := (zc zz.out 4).trans rfl
        have zsc := zb zz.out 0
        have ztc := zb zz.out 1
        have zuc := zb zz.out 2
        have zvc := zb zz.out 3
        have zwc := zb zz.out 4
        go_wp2_with (first | ((with_reducible refine zo (f := 27) rfl ?_); refine goesL_ (some 41) rfl rfl Try.func27 (by kernel_rfl) rfl #[.agg #[.int .i64 t256, .int .i64 t257, .int .i64 t258, .int .i64 t259, .int .i64 t260]] rfl (by (try simp only [List.map_toArray, List.map_cons, List.map_nil]); first | done | rfl | (simp only [List.length_drop, List.length_take]; rfl)) ?_; (with_reducible refine (spec_EncodeSuper.calls kj9 t256 t257 t258 t259 t260 t280 _ A37.out).mono ?_); rintro e w43 ⟨v281, rfl, zN, hb⟩; refine ⟨_, rfl, ?_⟩; have n0_ := Aside0.mk (Kd.R_elder' (by (with_reducible repeat (first | apply Kd.R_alloc | apply Kd.R_drewN | apply Kd.R_drew)); exact zK.out) (Kd.R_base zN) hb); have n1_ := Aside0.mk (Kd.R_elder' (by (with_reducible repeat (first | apply Kd.R_alloc | apply Kd.R_drewN | apply Kd.R_drew)); exact zL.out) (Kd.R_base zN) hb); have n2_ := Aside0.mk (Kd.R_lower (Kd.R_new' (Kd.R_new' zN (Kd.R_lt (by (with_reducible repeat (first | apply Kd.R_alloc | apply Kd.R_drewN | apply Kd.R_drew)); exact zK.out))) (Kd.R_lt (by (with_reducible repeat (first | apply Kd.R_alloc | apply Kd.R_drewN | apply Kd.R_drew)); exact zL.out))) (zk (by repeat (first | (with_reducible first | exact HB.out | apply zg | apply zd | apply zh | refine zj ?_ zH.out | refine zj ?_ zI.out) | exact HB.out)))); have n3_ := Aside0.mk (zr (g := zF) (o := .cells #[.int .i64 t256, .int .i64 t257, .int .i64 t258, .int .i64 t259, .int .i64 t260] 52 (0, 0)) (by (with_reducible repeat (first | refine zf ?_ _ | refine zi ?_ | refine ze ?_ _)); exact zz.out) hb); have n4_ := Aside0.mk (zr (g := zG) (o := .cells #[.int .i64 t262, .int .i64 t263, .int .i64 t264, .int .i64 t265, .int .i64 t266] 52 (0, 0)) (by (with_reducible repeat (first | refine zf ?_ _ | refine zi ?_ | refine ze ?_ _)); exact zA.out) hb); have n5_ := Aside0.mk (zl (by repeat (first | (with_reducible first | exact HB.out | apply zg | apply zd | apply zh | refine zj ?_ zH.out | refine zj ?_ zI.out) | exact HB.out)) hb); clear zK; clear zL; clear zz; clear zA; clear HB; have zK := n0_; have zL := n1_; have zU := n2_; have zz := n3_; have zA := n4_; have HB := n5_; clear n0_ n1_ n2_ n3_ n4_ n5_; (try clear hb); (try clear hb2); (try clear hk); (try clear hi); (try clear zN); obtain ⟨Ao44, co44, eo44⟩ := Kd.R_slice zU.out; subst eo44; obtain ⟨Ao45, co45, eo45⟩ := Kd.R_slice zL.out; subst eo45; have zxc : w43.cell? ⟨zG, 0, none⟩ = some (.int .i64 t262) := (zc zA.out 0).trans rfl; have zyc : w43.cell? ⟨zG, 1, none⟩ = some (.int .i64 t263) := (zc zA.out 1).trans rfl; have zzc : w43.cell? ⟨zG, 2, none⟩ = some (.int .i64 t264) := (zc zA.out 2).trans rfl; have zAc : w43.cell? ⟨zG, 3, none⟩ = some (.int .i64 t265) := (zc zA.out 3).trans rfl; have zBc : w43.cell? ⟨zG, 4, none⟩ = some (.int .i64 t266) := (zc zA.out 4).trans rfl; have zCc := zb zA.out 0; have zDc := zb zA.out 1; have zEc := zb zA.out 2; have zFc := zb zA.out 3; have zGc := zb zA.out 4) | (go_at_call 27; (with_reducible refine (spec_EncodeSuper.calls kj9 t262 t263 t264 t265 t266 t283 _ A39.out).mono ?_); rintro e w47 ⟨v284, rfl, zN, hb⟩; have n0_ := Aside0.mk (Kd.R_elder' (by (with_reducible repeat (first | apply Kd.R_alloc | apply Kd.R_drewN | apply Kd.R_drew)); exact zK.out) (Kd.R_base zN) hb); have n1_ := Aside0.mk (Kd.R_elder' (by (with_reducible repeat (first | apply Kd.R_alloc | apply Kd.R_drewN | apply Kd.R_drew)); exact zL.out) (Kd.R_base zN) hb); have n2_ := Aside0.mk (Kd.R_elder' (by (with_reducible repeat (first | apply Kd.R_alloc | apply Kd.R_drewN | apply Kd.R_drew)); exact zU.out) (Kd.R_base zN) hb); have n3_ := Aside0.mk (Kd.R_lower (Kd.R_new' (Kd.R_new' (Kd.R_new' zN (Kd.R_lt (by (with_reducible repeat (first | apply Kd.R_alloc | apply Kd.R_drewN | apply Kd.R_drew)); exact zK.out))) (Kd.R_lt (by (with_reducible repeat (first | apply Kd.R_alloc | apply Kd.R_drewN | apply Kd.R_drew)); exact zL.out))) (Kd.R_lt (by (with_reducible repeat (first | apply Kd.R_alloc | apply Kd.R_drewN | apply Kd.R_drew)); exact zU.out))) (zk (by repeat (first | (with_reducible first | exact HB.out | apply zg | apply zd | apply zh | refine zj ?_ zH.out | refine zj ?_ zI.out) | exact HB.out)))); have n4_ := Aside0.mk (zr (g := zF) (o := .cells #[.int .i64 t256, .int .i64 t257, .int .i64 t258, .int .i64 t259, .int .i64 t260] 52 (0, 0)) (by (with_reducible repeat (first | refine zf ?_ _ | refine zi ?_ | refine ze ?_ _)); exact zz.out) hb); have n5_ := Aside0.mk (zr (g := zG) (o := .cells #[.int .i64 t262, .int .i64 t263, .int .i64 t264, .int .i64 t265, .int .i64 t266] 52 (0, 0)) (by (with_reducible repeat (first | refine zf ?_ _ | refine zi ?_ | refine ze ?_ _)); exact zA.out) hb); have n6_ := Aside0.mk (zl (by repeat (first | (with_reducible first | exact HB.out | apply zg | apply zd | apply zh | refine zj ?_ zH.out | refine zj ?_ zI.out) | exact HB.out)) hb); clear zK; clear zL; clear zU; clear zz; clear zA; clear HB; have zK := n0_; have zL := n1_; have zU := n2_; have zwf := n3_; have zz := n4_; have zA := n5_; have HB := n6_; clear n0_ n1_ n2_ n3_ n4_ n5_ n6_; (try clear hb); (try clear hb2); (try clear hk); (try clear hi); (try clear zN); obtain ⟨Ao48, co48, eo48⟩ := Kd.R_slice zwf.out; subst eo48))
        go_ret
        exact ⟨by first | rfl | (simp [errW_none, errW_some] <;> rfl) | (simp [*, errW_none, errW_some] <;> rfl), by repeat (first | (with_reducible first | exact HB.out | apply zg | apply zd | apply zh | refine zj ?_ zH.out | refine zj ?_ zI.out) | exact HB.out)⟩
       ·rw [if_neg c38] at H
        have c38b0 : ((t268.length : Int) == (t280.length : Int)) = false := beq_eq_false_iff_ne.mpr c38
        have c38b1 : ((t268.length : Int) != (t280.length : Int)) = true := bne_iff_ne.mpr c38
        have c38b2 : (t268.length == t280.length) = false := by first | simpa using c38 | (simp at c38 ⊢; omega)
        obtain rfl := Option.some.inj H
        obtain ⟨Ao49, co49, eo49⟩ := Kd.R_slice zK.out
        subst eo49
        have zfj := zJ.out
        have zgj := zM.out
        have zHc : wc.cell? ⟨zF, 0, none⟩ = some (.int .i64 t256) := (zc zz.out 0).trans rfl
        have zIc : wc.cell? ⟨zF, 1, none⟩ = some (.int .i64 t257) := (zc zz.out 1).trans rfl
        have zJc : wc.cell? ⟨zF, 2, none⟩ = some (.int .i64 t258) := (zc zz.out 2).trans rfl
        have zKc : wc.cell? ⟨zF, 3, none⟩ = some (.int .i64 t259) := (zc zz.out 3).trans rfl
        have zLc : wc.cell? ⟨zF, 4, none⟩ = some (.int .i64 t260) := (zc zz.out 4).trans rfl
        have zMc := zb zz.out 0
        have zNc := zb zz.out 1
        have zOc := zb zz.out 2
        have zPc := zb zz.out 3
        have zQc := zb zz.out 4
        go_wp2_with (first | ((with_reducible refine zo (f := 27) rfl ?_); refine goesL_ (some 41) rfl rfl Try.func27 (by kernel_rfl) rfl #[.agg #[.int .i64 t256, .int .i64 t257, .int .i64 t258, .int .i64 t259, .int .i64 t260]] rfl (by (try simp only [List.map_toArray, List.map_cons, List.map_nil]); first | done | rfl | (simp only [List.length_drop, List.length_take]; rfl)) ?_; (with_reducible refine (spec_EncodeSuper.calls kj9 t256 t257 t258 t259 t260 t280 _ A37.out).mono ?_); rintro e w52 ⟨v281, rfl, zN, hb⟩; refine ⟨_, rfl, ?_⟩; have n0_ := Aside0.mk (Kd.R_elder' (by (with_reducible repeat (first | apply Kd.R_alloc | apply Kd.R_drewN | apply Kd.R_drew)); exact zK.out) (Kd.R_base zN) hb); have n1_ := Aside0.mk (Kd.R_elder' (by (with_reducible repeat (first | apply Kd.R_alloc | apply Kd.R_drewN | apply Kd.R_drew)); exact zL.out) (Kd.R_base zN) hb); have n2_ := Aside0.mk (Kd.R_lower (Kd.R_new' (Kd.R_new' zN (Kd.R_lt (by (with_reducible repeat (first | apply Kd.R_alloc | apply Kd.R_drewN | apply Kd.R_drew)); exact zK.out))) (Kd.R_lt (by (with_reducible repeat (first | apply Kd.R_alloc | apply Kd.R_drewN | apply Kd.R_drew)); exact zL.out))) (zk (by repeat (first | (with_reducible first | exact HB.out | apply zg | apply zd | apply zh | refine zj ?_ zH.out | refine zj ?_ zI.out) | exact HB.out)))); have n3_ := Aside0.mk (zr (g := zF) (o := .cells #[.int .i64 t256, .int .i64 t257, .int .i64 t258, .int .i64 t259, .int .i64 t260] 52 (0, 0)) (by (with_reducible repeat (first | refine zf ?_ _ | refine zi ?_ | refine ze ?_ _)); exact zz.out) hb); have n4_ := Aside0.mk (zr (g := zG) (o := .cells #[.int .i64 t262, .int .i64 t263, .int .i64 t264, .int .i64 t265, .int .i64 t266] 52 (0, 0)) (by (with_reducible repeat (first | refine zf ?_ _ | refine zi ?_ | refine ze ?_ _)); exact zA.out) hb); have n5_ := Aside0.mk (zl (by repeat (first | (with_reducible first | exact HB.out | apply zg | apply zd | apply zh | refine zj ?_ zH.out | refine zj ?_ zI.out) | exact HB.out)) hb); clear zK; clear zL; clear zz; clear zA; clear HB; have zK := n0_; have zL := n1_; have zU := n2_; have zz := n3_; have zA := n4_; have HB := n5_; clear n0_ n1_ n2_ n3_ n4_ n5_; (try clear hb); (try clear hb2); (try clear hk); (try clear hi); (try clear zN); obtain ⟨Ao53, co53, eo53⟩ := Kd.R_slice zU.out; subst eo53))
        go_ret
        exact ⟨by first | rfl | (simp [errW_none, errW_some] <;> rfl) | (simp [*, errW_none, errW_some] <;> rfl), by repeat (first | (with_reducible first | exact HB.out | apply zg | apply zd | apply zh | refine zj ?_ zH.out | refine zj ?_ zI.out) | exact HB.out)⟩
      ·replace c36 := Bool.eq_false_iff.mpr c36
       subst c36
       have H1 : (if (t268.length : Int) = 64 then (laws_FnTornSuper.j2 kj9 t268 t271 ((t271.length : Int) != 64) t256 t257 t258 t259 t260 t262 t263 t264 t265 t266) else (laws_FnTornSuper.j2 kj9 t268 t271 true t256 t257 t258 t259 t260 t262 t263 t264 t265 t266)) = some r := by rw [if_neg (show ¬ (false = true) by decide)] at H; exact H
       clear H
       have H := H1
       clear H1
       have HC54 := Aside0.mk H
       clear H
       go_upto_region 9 with (fail)
       go_cut [59] (fun v59 wc => ∃ (kq : Nat) (x59_53 : Bool), v59 = .bool x59_53 ∧ Aside0 (laws_FnTornSuper.j2 kq t268 t271 x59_53 t256 t257 t258 t259 t260 t262 t263 t264 t265 t266 = some r) ∧ Aside0 (kq ≤ kj9) ∧ Aside0 (Kd.R (Kd.int .u8) 76 wc w.heap.size (fun k_ => some k_ ≠ (v272 : Value).ownBlock) v269 t268) ∧ Aside0 (Kd.R (Kd.int .u8) 76 wc w.heap.size (fun k_ => some k_ ≠ (v269 : Value).ownBlock) v272 t271) ∧ Aside0 (wc.heap[zF]? = some (.cells #[.int .i64 t256, .int .i64 t257, .int .i64 t258, .int .i64 t259, .int .i64 t260] 52 (0, 0))) ∧ Aside0 (wc.heap[zG]? = some (.cells #[.int .i64 t262, .int .i64 t263, .int .i64 t264, .int .i64 t265, .int .i64 t266] 52 (0, 0))) ∧ Aside0 (Below w.heap.size w wc))
       case first =>
        have H := HC54.out
        clear HC54
        by_cases c55 : (t268.length : Int) = 64
        ·rw [if_pos c55] at H
         have c55b0 : ((t268.length : Int) == 64) = true := beq_iff_eq.mpr c55
         have c55b1 : ((t268.length : Int) != 64) = false := bne_eq_false_iff_eq.mpr c55
         clear c55
         (first | rw [c55b0] | (simp only [zv, zx]; rw [c55b0]) | skip)
         have H' := Aside0.mk H
         clear H
         obtain ⟨Ao56, co56, eo56⟩ := Kd.R_slice zK.out
         subst eo56
         obtain ⟨Ao57, co57, eo57⟩ := Kd.R_slice zL.out
         subst eo57
         go_wp2
         go_meet
         case rel => exact ⟨_, (((t271.length : Int) != 64)), (by first | rfl | (simp; done) | (simp [*]; done)), H', ⟨by have := HJ2.out; have := HJ9.out; first | omega | exact Nat.le_refl _⟩, ⟨by (with_reducible repeat (first | apply Kd.R_alloc | apply Kd.R_drewN | apply Kd.R_drew)); exact zK.out⟩, ⟨by (with_reducible repeat (first | apply Kd.R_alloc | apply Kd.R_drewN | apply Kd.R_drew)); exact zL.out⟩, ⟨by (with_reducible repeat (first | refine zf ?_ _ | refine zi ?_ | refine ze ?_ _)); exact zz.out⟩, ⟨by (with_reducible repeat (first | refine zf ?_ _ | refine zi ?_ | refine ze ?_ _)); exact zA.out⟩, ⟨by repeat (first | (with_reducible first | exact HB.out | apply zg | apply zd | apply zh | refine zj ?_ zH.out | refine zj ?_ zI.out) | exact HB.out)⟩⟩
        ·rw [if_neg c55] at H
         have c55b0 : ((t268.length : Int) == 64) = false := beq_eq_false_iff_ne.mpr c55
         have c55b1 : ((t268.length : Int) != 64) = true := bne_iff_ne.mpr c55
         (first | rw [c55b0] | (simp only [zv, zx]; rw [c55b0]) | skip)
         have H' := Aside0.mk H
         clear H
         obtain ⟨Ao58, co58, eo58⟩ := Kd.R_slice zK.out
         subst eo58
         go_wp2
         go_meet
         case rel => exact ⟨_, (true), (by first | rfl | (simp; done) | (simp [*]; done)), H', ⟨by have := HJ2.out; have := HJ9.out; first | omega | exact Nat.le_refl _⟩, ⟨by (with_reducible repeat (first | apply Kd.R_alloc | apply Kd.R_drewN | apply Kd.R_drew)); exact zK.out⟩, ⟨by (with_reducible repeat (first | apply Kd.R_alloc | apply Kd.R_drewN | apply Kd.R_drew)); exact zL.out⟩, ⟨by (with_reducible repeat (first | refine zf ?_ _ | refine zi ?_ | refine ze ?_ _)); exact zz.out⟩, ⟨by (with_reducible repeat (first | refine zf ?_ _ | refine zi ?_ | refine ze ?_ _)); exact zA.out⟩, ⟨by repeat (first | (with_reducible first | exact HB.out | apply zg | apply zd | apply zh | refine zj ?_ zH.out | refine zj ?_ zI.out) | exact HB.out)⟩⟩
       case rest =>
        clear HC54
        try clear c1
        try clear c2
        try clear p2
        try clear c3
        try clear c4
        try clear c4b0
        try clear c4b1
        try clear c5
        try clear c6
        try clear c16
        try clear c23
        try clear c23b0
        try clear c23b1
        try clear c23b2
        try clear c24
        try clear c25
        try clear c26
        try clear c27
        try clear c29
        try clear c36
        try clear c38
        try clear c38b0
        try clear c38b1
        try clear c38b2
        try clear c41
        try clear c50
        try clear c55
        try clear c55b0
        try clear c55b1
        try clear zV
        try clear zW
        try clear zX
        try clear zY
        try clear zZ
        try clear zfb
        try clear zgb
        try clear zhb
        try clear zib
        try clear zjb
        try clear zpb
        try clear zqb
        try clear zrb
        try clear zsb
        try clear ztb
        try clear zzb
        try clear zAb
        try clear zBb
        try clear zCb
        try clear zDb
        try clear zJb
        try clear zKb
        try clear zLb
        try clear zMb
        try clear zNb
        try clear zTb
        try clear zUb
        try clear zVb
        try clear zWb
        try clear zXb
        try clear zdc
        try clear zec
        try clear zfc
        try clear zgc
        try clear zhc
        try clear znc
        try clear zoc
        try clear zpc
        try clear zqc
        try clear zrc
        try clear zxc
        try clear zyc
        try clear zzc
        try clear zAc
        try clear zBc
        try clear zHc
        try clear zIc
        try clear zJc
        try clear zKc
        try clear zLc
        try clear zab
        try clear zbb
        try clear zcb
        try clear zdb
        try clear zeb
        try clear zkb
        try clear zlb
        try clear zmb
        try clear znb
        try clear zob
        try clear zub
        try clear zvb
        try clear zwb
        try clear zxb
        try clear zyb
        try clear zEb
        try clear zFb
        try clear zGb
        try clear zHb
        try clear zIb
        try clear zOb
        try clear zPb
        try clear zQb
        try clear zRb
        try clear zSb
        try clear zYb
        try clear zZb
        try clear zac
        try clear zbc
        try clear zcc
        try clear zic
        try clear zjc
        try clear zkc
        try clear zlc
        try clear zmc
        try clear zsc
        try clear ztc
        try clear zuc
        try clear zvc
        try clear zwc
        try clear zCc
        try clear zDc
        try clear zEc
        try clear zFc
        try clear zGc
        try clear zMc
        try clear zNc
        try clear zOc
        try clear zPc
        try clear zQc
        try clear p2
        obtain ⟨kq, x59_53, rfl, HA, HJ53, zK, zL, zz, zA, HB⟩ := hcut
        cases kq with
        | zero => exact absurd HA.out (by simp [laws_FnTornSuper.j2])
        | succ kj53 =>
         have H := HA.out
         clear HA
         simp only [laws_FnTornSuper.j2] at H
         by_cases c59 : x59_53 = true
         ·subst c59
          have H1 : (some false) = some r := by rw [if_pos rfl] at H; exact H
          clear H
          have H := H1
          clear H1
          obtain rfl := Option.some.inj H
          go_wp2
          go_ret
          exact ⟨by first | rfl | (simp [errW_none, errW_some] <;> rfl) | (simp [*, errW_none, errW_some] <;> rfl), by repeat (first | (with_reducible first | exact HB.out | apply zg | apply zd | apply zh | refine zj ?_ zH.out | refine zj ?_ zI.out) | exact HB.out)⟩
         ·replace c59 := Bool.eq_false_iff.mpr c59
          subst c59
          have H1 : (laws_FnTornSuper.l0 kj53 t268 t271 0 t256 t257 t258 t259 t260 t262 t263 t264 t265 t266) = some r := by rw [if_neg (show ¬ (false = true) by decide)] at H; exact H
          clear H
          have H := H1
          clear H1
          have H' := Aside0.mk H
          clear H
          go_wp2
          go_loopg [9] kj53 (fun kq v9 w' => ∃ (x9_4 : Int), v9 = .int .i64 x9_4 ∧ Aside0 (laws_FnTornSuper.l0 kq t268 t271 x9_4 t256 t257 t258 t259 t260 t262 t263 t264 t265 t266 = some r) ∧ Aside0 (kq ≤ kj53) ∧ Aside0 (Kd.R (Kd.int .u8) 76 w' w.heap.size (fun k_ => some k_ ≠ (v272 : Value).ownBlock) v269 t268) ∧ Aside0 (Kd.R (Kd.int .u8) 76 w' w.heap.size (fun k_ => some k_ ≠ (v269 : Value).ownBlock) v272 t271) ∧ Aside0 (w'.heap[zF]? = some (.cells #[.int .i64 t256, .int .i64 t257, .int .i64 t258, .int .i64 t259, .int .i64 t260] 52 (0, 0))) ∧ Aside0 (w'.heap[zG]? = some (.cells #[.int .i64 t262, .int .i64 t263, .int .i64 t264, .int .i64 t265, .int .i64 t266] 52 (0, 0))) ∧ Aside0 (Below w.heap.size w w'))
          case atStart => exact ⟨(0), (by first | rfl | (simp; done) | (simp [*]; done)), H', ⟨Nat.le_refl _⟩, ⟨by (with_reducible repeat (first | apply Kd.R_alloc | apply Kd.R_drewN | apply Kd.R_drew)); exact zK.out⟩, ⟨by (with_reducible repeat (first | apply Kd.R_alloc | apply Kd.R_drewN | apply Kd.R_drew)); exact zL.out⟩, ⟨by (with_reducible repeat (first | refine zf ?_ _ | refine zi ?_ | refine ze ?_ _)); exact zz.out⟩, ⟨by (with_reducible repeat (first | refine zf ?_ _ | refine zi ?_ | refine ze ?_ _)); exact zA.out⟩, ⟨by repeat (first | (with_reducible first | exact HB.out | apply zg | apply zd | apply zh | refine zj ?_ zH.out | refine zj ?_ zI.out) | exact HB.out)⟩⟩
          case round =>
           clear H'
           try clear c1
           try clear c2
           try clear p2
           try clear c3
           try clear c4
           try clear c4b0
           try clear c4b1
           try clear c5
           try clear c6
           try clear c16
           try clear c23
           try clear c23b0
           try clear c23b1
           try clear c23b2
           try clear c24
           try clear c25
           try clear c26
           try clear c27
           try clear c29
           try clear c36
           try clear c38
           try clear c38b0
           try clear c38b1
           try clear c38b2
           try clear c41
           try clear c50
           try clear c55
           try clear c55b0
           try clear c55b1
           try clear c59
           try clear zV
           try clear zW
           try clear zX
           try clear zY
           try clear zZ
           try clear zfb
           try clear zgb
           try clear zhb
           try clear zib
           try clear zjb
           try clear zpb
           try clear zqb
           try clear zrb
           try clear zsb
           try clear ztb
           try clear zzb
           try clear zAb
           try clear zBb
           try clear zCb
           try clear zDb
           try clear zJb
           try clear zKb
           try clear zLb
           try clear zMb
           try clear zNb
           try clear zTb
           try clear zUb
           try clear zVb
           try clear zWb
           try clear zXb
           try clear zdc
           try clear zec
           try clear zfc
           try clear zgc
           try clear zhc
           try clear znc
           try clear zoc
           try clear zpc
           try clear zqc
           try clear zrc
           try clear zxc
           try clear zyc
           try clear zzc
           try clear zAc
           try clear zBc
           try clear zHc
           try clear zIc
           try clear zJc
           try clear zKc
           try clear zLc
           try clear zab
           try clear zbb
           try clear zcb
           try clear zdb
           try clear zeb
           try clear zkb
           try clear zlb
           try clear zmb
           try clear znb
           try clear zob
           try clear zub
           try clear zvb
           try clear zwb
           try clear zxb
           try clear zyb
           try clear zEb
           try clear zFb
           try clear zGb
           try clear zHb
           try clear zIb
           try clear zOb
           try clear zPb
           try clear zQb
           try clear zRb
           try clear zSb
           try clear zYb
           try clear zZb
           try clear zac
           try clear zbc
           try clear zcc
           try clear zic
           try clear zjc
           try clear zkc
           try clear zlc
           try clear zmc
           try clear zsc
           try clear ztc
           try clear zuc
           try clear zvc
           try clear zwc
           try clear zCc
           try clear zDc
           try clear zEc
           try clear zFc
           try clear zGc
           try clear zMc
           try clear zNc
           try clear zOc
           try clear zPc
           try clear zQc
           try clear p2
           obtain ⟨x9_4, rfl, HA, HK4, zK, zL, zz, zA, HB⟩ := hrel
           cases gk with
           | zero => exact absurd HA.out (by simp [laws_FnTornSuper.l0])
           | succ k4 =>
            have H := HA.out
            clear HA
            simp only [laws_FnTornSuper.l0] at H
            by_cases c60 : x9_4 ≤ 64
            ·rw [if_pos c60] at H
             have c60b0 : decide (x9_4 ≤ 64) = true := decide_eq_true c60
             clear c60
             replace H := Option.bind_eq_some_iff.mp H
             obtain ⟨⟨t286, t287, t288, t289, t290, t291⟩, A610, H⟩ := H
             replace H : (if x9_4 = 0 then (if t286 = true then (if (!(t287 == t256) || (!(t288 == t257) || (!(t289 == t258) || (!(t290 == t259) || (!(t291 == t260)))))) = true then (laws_FnTornSuper.j4 k4 t268 t271 x9_4 true t256 t257 t258 t259 t260 t262 t263 t264 t265 t266 t286 t287 t288 t289 t290 t291) else (if x9_4 = 64 then (laws_FnTornSuper.j4 k4 t268 t271 x9_4 (!(t287 == t262) || (!(t288 == t263) || (!(t289 == t264) || (!(t290 == t265) || (!(t291 == t266)))))) t256 t257 t258 t259 t260 t262 t263 t264 t265 t266 t286 t287 t288 t289 t290 t291) else (laws_FnTornSuper.j4 k4 t268 t271 x9_4 false t256 t257 t258 t259 t260 t262 t263 t264 t265 t266 t286 t287 t288 t289 t290 t291))) else (laws_FnTornSuper.j4 k4 t268 t271 x9_4 true t256 t257 t258 t259 t260 t262 t263 t264 t265 t266 t286 t287 t288 t289 t290 t291)) else (if x9_4 = 64 then (if t286 = true then (laws_FnTornSuper.j4 k4 t268 t271 x9_4 (!(t287 == t262) || (!(t288 == t263) || (!(t289 == t264) || (!(t290 == t265) || (!(t291 == t266)))))) t256 t257 t258 t259 t260 t262 t263 t264 t265 t266 t286 t287 t288 t289 t290 t291) else (laws_FnTornSuper.j4 k4 t268 t271 x9_4 true t256 t257 t258 t259 t260 t262 t263 t264 t265 t266 t286 t287 t288 t289 t290 t291)) else (laws_FnTornSuper.j4 k4 t268 t271 x9_4 false t256 t257 t258 t259 t260 t262 t263 t264 t265 t266 t286 t287 t288 t289 t290 t291))) = some r := H
             have A61 := Aside0.mk A610
             clear A610
             have HC62 := Aside0.mk H
             clear H
             obtain ⟨Ao63, co63, eo63⟩ := Kd.R_slice zL.out
             subst eo63
             obtain ⟨Ao64, co64, eo64⟩ := Kd.R_slice zK.out
             subst eo64
             obtain ⟨L1_, L2_, A2_, c2_, y_, hs1_, hs2_, HT1_, HT2_, HY_, HZ_, HD_⟩ := mix_open A61.out Ao63 Ao64 co63 co64 (Kd.R_reads' zL.out).2.1 (Kd.R_reads' zK.out).2.1
             go_upto_region 14 with (fail)
             refine start_ (n := 11) (S := fun w' => Kd.C (Kd.int .u8) w' Ao63 L1_.length L1_ ∧ Kd.C (Kd.int .u8) w' A2_ L2_.length L2_) (ds := []) #[false, false, false, false, false, false, false, false, false, false, false] (by kernel_rfl) rfl rfl ⟨(HT1_.out _ (Kd.R_reads' (Kd.R_drew zL.out)).2.2), (HT2_.out _ (Kd.R_reads' (Kd.R_drew zK.out)).2.2)⟩ (fun hHeld => ?_)
             refine pure_ (i := 0) (N := some 64) (v := ?_) (a' := ?_) #[true, false, false, false, false, false, false, false, false, false, false] rfl rfl (by kernel_rfl) (fun _ _ _ h => h) (Or.inl ⟨by rfl, ?_⟩) ?_ ?_
             rotate_left
             ·intro w'
              go_simp
              with_reducible rfl
             rotate_left
             ·simp only [Act.put, List.setIfInBounds_toArray, List.set_cons_zero, List.set_cons_succ, zv, zx]
              rfl
             refine pure_ (i := 1) (N := some 65) (v := ?_) (a' := ?_) #[true, true, false, false, false, false, false, false, false, false, false] rfl rfl (by kernel_rfl) (fun _ _ _ h => h) (Or.inl ⟨by rfl, ?_⟩) ?_ ?_
             rotate_left
             ·intro w'
              go_simp
              with_reducible rfl
             rotate_left
             ·simp only [Act.put, List.setIfInBounds_toArray, List.set_cons_zero, List.set_cons_succ, zv, zx]
              rfl
             refine pure_ (i := 2) (N := some 66) (v := ?_) (a' := ?_) #[true, true, true, false, false, false, false, false, false, false, false] rfl rfl (by kernel_rfl) (fun _ _ _ h => h) (Or.inl ⟨by rfl, ?_⟩) ?_ ?_
             rotate_left
             ·intro w'
              go_simp
              with_reducible rfl
             rotate_left
             ·simp only [Act.put, List.setIfInBounds_toArray, List.set_cons_zero, List.set_cons_succ, zv, zx]
              rfl
             refine take_ (i := 3) (N := some 67) (v := (.string (strOfNums L1_))) (a' := ?_) #[true, true, true, true, false, false, false, false, false, false, false] rfl rfl (by kernel_rfl) (fun _ _ _ h => h) (Or.inl ⟨by rfl, ?_⟩) hHeld ?_ ?_
             ·rintro w' ⟨s0, s1⟩
              have e_ := Kd.C_string (P := Try.prog) (c := co63) Try.underlying22 Try.underlying5 Try.underlying9 s0
              go_simp
             rotate_left
             ·simp only [Act.put, List.setIfInBounds_toArray, List.set_cons_zero, List.set_cons_succ, zv, zx]
              rfl
             refine pure_ (i := 4) (N := some 68) (v := ?_) (a' := ?_) #[true, true, true, true, true, false, false, false, false, false, false] rfl rfl (by kernel_rfl) (fun _ _ _ h => h) (Or.inl ⟨by rfl, ?_⟩) ?_ ?_
             rotate_left
             ·intro w'
              go_simp
              with_reducible rfl
             rotate_left
             ·simp only [Act.put, List.setIfInBounds_toArray, List.set_cons_zero, List.set_cons_succ, zv, zx]
              rfl
             refine pure_ (i := 5) (N := some 69) (v := ?_) (a' := ?_) #[true, true, true, true, true, true, false, false, false, false, false] rfl rfl (by kernel_rfl) (fun _ _ _ h => h) (Or.inl ⟨by rfl, ?_⟩) ?_ ?_
             rotate_left
             ·intro w'
              go_simp
              with_reducible rfl
             rotate_left
             ·simp only [Act.put, List.setIfInBounds_toArray, List.set_cons_zero, List.set_cons_succ, zv, zx]
              rfl
             refine pure_ (i := 6) (N := some 70) (v := ?_) (a' := ?_) #[true, true, true, true, true, true, true, false, false, false, false] rfl rfl (by kernel_rfl) (fun _ _ _ h => h) (Or.inl ⟨by rfl, ?_⟩) ?_ ?_
             rotate_left
             ·intro w'
              go_simp
              with_reducible rfl
             rotate_left
             ·simp only [Act.put, List.setIfInBounds_toArray, List.set_cons_zero, List.set_cons_succ, zv, zx]
              rfl
             refine take_ (i := 7) (N := some 71) (v := (.string (strOfNums L2_))) (a' := ?_) #[true, true, true, true, true, true, true, true, false, false, false] rfl rfl (by kernel_rfl) (fun _ _ _ h => h) (Or.inl ⟨by rfl, ?_⟩) hHeld ?_ ?_
             ·rintro w' ⟨s0, s1⟩
              have e_ := Kd.C_string (P := Try.prog) (c := c2_) Try.underlying22 Try.underlying5 Try.underlying9 s1
              go_simp
             rotate_left
             ·simp only [Act.put, List.setIfInBounds_toArray, List.set_cons_zero, List.set_cons_succ, zv, zx]
              rfl
             refine pure_ (i := 8) (N := some 72) (v := (.string y_)) (a' := ?_) #[true, true, true, true, true, true, true, true, true, false, false] rfl rfl (by kernel_rfl) (fun _ _ _ h => h) (Or.inl ⟨by rfl, ?_⟩) ?_ ?_
             ·intro w'
              have hz_ := HZ_.out
              rw [← HY_.out, ByteArray.size_append] at hz_
              rw [← HY_.out]
              go_simp
             rotate_left
             ·simp only [Act.put, List.setIfInBounds_toArray, List.set_cons_zero, List.set_cons_succ, zv, zx]
              rfl
             refine one_ (i := 9) (N := some 73) #[true, true, true, true, true, true, true, true, true, true, false] rfl rfl (by kernel_rfl) (by decide) (fun K hK => ?_)
             refine value_ (w1 := ?_) (v := ?_) (by rfl) rfl ?_ ?_
             rotate_left 2
             ·have hcB_ := print_bytes (P := Try.prog) 9 22 5 Try.underlying9 Try.underlying22 Try.underlying5 y_
              go_simp
              constructor
              ·rfl
              ·rfl
             refine hK.out _ _ ⟨Kd.C_below hHeld.1 (bytes_below (Below.refl _ _) (Nat.le_refl _) _ _), Kd.C_below hHeld.2 (bytes_below (Below.refl _ _) (Nat.le_refl _) _ _)⟩ (fun hHeld => ?_)
             clear hK K
             refine norm_ (a' := ?_) ?_ ?_
             rotate_left
             ·show Act.put _ (some 73) _ = _
              simp only [Act.put, List.setIfInBounds_toArray, List.set_cons_zero, List.set_cons_succ, zv, zx]
              rfl
             refine pure_ (i := 10) (N := some 10) (v := ?_) (a' := ?_) #[true, true, true, true, true, true, true, true, true, true, true] rfl rfl (by kernel_rfl) (fun _ _ _ h => h) (Or.inl ⟨by rfl, ?_⟩) ?_ ?_
             rotate_left
             ·intro w'
              go_simp
              with_reducible rfl
             rotate_left
             ·simp only [Act.put, List.setIfInBounds_toArray, List.set_cons_zero, List.set_cons_succ, zv, zx]
              rfl
             refine done_ (by kernel_rfl) ?_
             go_upto_region 16 with (first | ((with_reducible refine zo (f := 28) rfl ?_); refine goesL_ (some 75) rfl rfl Try.func28 (by kernel_rfl) rfl #[.slice (some ⟨wr.drew.heap.size, 0, none⟩) y_.size (grownCap wr.drew y_.size 0 5)] rfl (by (try simp only [List.map_toArray, List.map_cons, List.map_nil]); first | done | rfl) ?_; (refine (mix_decode k4 wr.drew y_ t286 t287 t288 t289 t290 t291 HZ_.out HD_.out).mono ?_); rintro e w65 ⟨rfl, hb⟩; refine ⟨_, rfl, ?_⟩; have n0_ := Aside0.mk (Kd.R_below (by (with_reducible repeat (first | apply Kd.R_alloc | apply Kd.R_drewN | apply Kd.R_drew)); exact zK.out) hb); have n1_ := Aside0.mk (Kd.R_below (by (with_reducible repeat (first | apply Kd.R_alloc | apply Kd.R_drewN | apply Kd.R_drew)); exact zL.out) hb); have n2_ := Aside0.mk (zr (g := zF) (o := .cells #[.int .i64 t256, .int .i64 t257, .int .i64 t258, .int .i64 t259, .int .i64 t260] 52 (0, 0)) (by (with_reducible repeat (first | refine zf ?_ _ | refine zi ?_ | refine ze ?_ _)); exact zz.out) hb); have n3_ := Aside0.mk (zr (g := zG) (o := .cells #[.int .i64 t262, .int .i64 t263, .int .i64 t264, .int .i64 t265, .int .i64 t266] 52 (0, 0)) (by (with_reducible repeat (first | refine zf ?_ _ | refine zi ?_ | refine ze ?_ _)); exact zA.out) hb); have n4_ := Aside0.mk (zl (by repeat (first | (with_reducible first | exact HB.out | apply zg | apply zd | apply zh | refine zj ?_ zH.out | refine zj ?_ zI.out) | exact HB.out)) hb); clear zK; clear zL; clear zz; clear zA; clear HB; have zK := n0_; have zL := n1_; have zz := n2_; have zA := n3_; have HB := n4_; clear n0_ n1_ n2_ n3_ n4_; (try clear hb); (try clear hb2); (try clear hk); (try clear hi)) | ((with_reducible refine zu (N := 11) rfl ?_); (try (refine gate_guard (by rfl) ?_; dsimp only)); refine zy ?hg (N := 11) ?hd (cs := #[.bool false, .int .i64 0, .int .i64 0, .int .i64 0, .int .i64 0, .int .i64 0]) (t := 56) ?hr ?_; (case hd => rfl); (case hg => rfl); (case hr => first | (go_simp; done) | (go_simp; rfl)); intro zB hg w66 hbox hb; have n0_ := Aside0.mk (Kd.R_below (by (with_reducible repeat (first | apply Kd.R_alloc | apply Kd.R_drewN | apply Kd.R_drew)); exact zK.out) hb); have n1_ := Aside0.mk (Kd.R_below (by (with_reducible repeat (first | apply Kd.R_alloc | apply Kd.R_drewN | apply Kd.R_drew)); exact zL.out) hb); have n2_ := Aside0.mk (zr (g := zF) (o := .cells #[.int .i64 t256, .int .i64 t257, .int .i64 t258, .int .i64 t259, .int .i64 t260] 52 (0, 0)) (by (with_reducible repeat (first | refine zf ?_ _ | refine zi ?_ | refine ze ?_ _)); exact zz.out) hb); have n3_ := Aside0.mk (zr (g := zG) (o := .cells #[.int .i64 t262, .int .i64 t263, .int .i64 t264, .int .i64 t265, .int .i64 t266] 52 (0, 0)) (by (with_reducible repeat (first | refine zf ?_ _ | refine zi ?_ | refine ze ?_ _)); exact zA.out) hb); have n4_ := Aside0.mk (zl (by repeat (first | (with_reducible first | exact HB.out | apply zg | apply zd | apply zh | refine zj ?_ zH.out | refine zj ?_ zI.out) | exact HB.out)) hb); have n5_ := Aside0.mk (hbox); have n6_ := Aside0.mk ((by rw [hg]; exact (zk (by repeat (first | (with_reducible first | exact HB.out | apply zg | apply zd | apply zh | refine zj ?_ zH.out | refine zj ?_ zI.out) | exact HB.out))) : w.heap.size ≤ zB)); have n7_ := Aside0.mk ((by rw [hg]; exact (zk (by repeat (first | (with_reducible first | exact HB.out | apply zg | apply zd | apply zh | refine zj ?_ zH.out | refine zj ?_ zI.out) | exact HB.out))) : w.heap.size ≤ zB)); have n8_ := Aside0.mk ((by rw [hg]; exact Nat.ne_of_lt (blk_lt (g := zF) (o := .cells #[.int .i64 t256, .int .i64 t257, .int .i64 t258, .int .i64 t259, .int .i64 t260] 52 (0, 0)) (by (with_reducible repeat (first | refine zf ?_ _ | refine zi ?_ | refine ze ?_ _)); exact zz.out)) : zF ≠ zB)); have n9_ := Aside0.mk ((by rw [hg]; exact Nat.ne_of_gt (blk_lt (g := zF) (o := .cells #[.int .i64 t256, .int .i64 t257, .int .i64 t258, .int .i64 t259, .int .i64 t260] 52 (0, 0)) (by (with_reducible repeat (first | refine zf ?_ _ | refine zi ?_ | refine ze ?_ _)); exact zz.out)) : zB ≠ zF)); have n10_ := Aside0.mk ((by rw [hg]; exact Nat.ne_of_lt (blk_lt (g := zG) (o := .cells #[.int .i64 t262, .int .i64 t263, .int .i64 t264, .int .i64 t265, .int .i64 t266] 52 (0, 0)) (by (with_reducible repeat (first | refine zf ?_ _ | refine zi ?_ | refine ze ?_ _)); exact zA.out)) : zG ≠ zB)); have n11_ := Aside0.mk ((by rw [hg]; exact Nat.ne_of_gt (blk_lt (g := zG) (o := .cells #[.int .i64 t262, .int .i64 t263, .int .i64 t264, .int .i64 t265, .int .i64 t266] 52 (0, 0)) (by (with_reducible repeat (first | refine zf ?_ _ | refine zi ?_ | refine ze ?_ _)); exact zA.out)) : zB ≠ zG)); clear zK; clear zL; clear zz; clear zA; clear HB; have zK := n0_; have zL := n1_; have zz := n2_; have zA := n3_; have HB := n4_; have zC := n5_; have GW292 := n6_; have zS := n7_; have zD := n8_; have zO := n9_; have zE := n10_; have zP := n11_; clear n0_ n1_ n2_ n3_ n4_ n5_ n6_ n7_ n8_ n9_ n10_ n11_; clear hb hbox hg; have zhj := zO.out; have zij := zD.out; have zjj := zP.out; have zkj := zE.out; have zdd : w66.cell? ⟨zB, 0, none⟩ = some (.bool false) := (zc zC.out 0).trans rfl; have zed : w66.cell? ⟨zB, 1, none⟩ = some (.int .i64 0) := (zc zC.out 1).trans rfl; have zfd : w66.cell? ⟨zB, 2, none⟩ = some (.int .i64 0) := (zc zC.out 2).trans rfl; have zgd : w66.cell? ⟨zB, 3, none⟩ = some (.int .i64 0) := (zc zC.out 3).trans rfl; have zhd : w66.cell? ⟨zB, 4, none⟩ = some (.int .i64 0) := (zc zC.out 4).trans rfl; have zid : w66.cell? ⟨zB, 5, none⟩ = some (.int .i64 0) := (zc zC.out 5).trans rfl; have zjd := zb zC.out 0; have zkd := zb zC.out 1; have zld := zb zC.out 2; have zmd := zb zC.out 3; have znd := zb zC.out 4; have zod := zb zC.out 5))
             (try simp only [Act.put, List.setIfInBounds_toArray, List.set_cons_zero, List.set_cons_succ])
             go_cut [103] (fun v103 wc => ∃ (kq : Nat) (x103_61 : Bool), v103 = .bool x103_61 ∧ Aside0 (laws_FnTornSuper.j4 kq t268 t271 x9_4 x103_61 t256 t257 t258 t259 t260 t262 t263 t264 t265 t266 t286 t287 t288 t289 t290 t291 = some r) ∧ Aside0 (kq ≤ k4) ∧ Aside0 (Kd.R (Kd.int .u8) 76 wc w.heap.size (fun k_ => some k_ ≠ ((.slice Ao63 t271.length co63) : Value).ownBlock) (.slice Ao64 t268.length co64) t268) ∧ Aside0 (Kd.R (Kd.int .u8) 76 wc w.heap.size (fun k_ => some k_ ≠ ((.slice Ao64 t268.length co64) : Value).ownBlock) (.slice Ao63 t271.length co63) t271) ∧ Aside0 (wc.heap[zF]? = some (.cells #[.int .i64 t256, .int .i64 t257, .int .i64 t258, .int .i64 t259, .int .i64 t260] 52 (0, 0))) ∧ Aside0 (wc.heap[zG]? = some (.cells #[.int .i64 t262, .int .i64 t263, .int .i64 t264, .int .i64 t265, .int .i64 t266] 52 (0, 0))) ∧ Aside0 (wc.heap[zB]? = some (.cells #[.bool t286, .int .i64 t287, .int .i64 t288, .int .i64 t289, .int .i64 t290, .int .i64 t291] 56 (0, 0))) ∧ Aside0 (Below w.heap.size w wc))
             case first =>
              have H := HC62.out
              clear HC62
              by_cases c70 : x9_4 = 0
              ·rw [if_pos c70] at H
               have c70b0 : (x9_4 == 0) = true := beq_iff_eq.mpr c70
               have c70b1 : (x9_4 != 0) = false := bne_eq_false_iff_eq.mpr c70
               clear c70
               (first | rw [c70b0] | (simp only [zv, zx]; rw [c70b0]) | skip)
               by_cases c71 : t286 = true
               ·subst c71
                have H1 : (if (!(t287 == t256) || (!(t288 == t257) || (!(t289 == t258) || (!(t290 == t259) || (!(t291 == t260)))))) = true then (laws_FnTornSuper.j4 k4 t268 t271 x9_4 true t256 t257 t258 t259 t260 t262 t263 t264 t265 t266 true t287 t288 t289 t290 t291) else (if x9_4 = 64 then (laws_FnTornSuper.j4 k4 t268 t271 x9_4 (!(t287 == t262) || (!(t288 == t263) || (!(t289 == t264) || (!(t290 == t265) || (!(t291 == t266)))))) t256 t257 t258 t259 t260 t262 t263 t264 t265 t266 true t287 t288 t289 t290 t291) else (laws_FnTornSuper.j4 k4 t268 t271 x9_4 false t256 t257 t258 t259 t260 t262 t263 t264 t265 t266 true t287 t288 t289 t290 t291))) = some r := by rw [if_pos rfl] at H; exact H
                clear H
                have H := H1
                clear H1
                by_cases c72 : (!(t287 == t256) || (!(t288 == t257) || (!(t289 == t258) || (!(t290 == t259) || (!(t291 == t260)))))) = true
                ·rw [if_pos c72] at H
                 have c72b0 : (!(t287 == t256) || (!(t288 == t257) || (!(t289 == t258) || (!(t290 == t259) || (!(t291 == t260)))))) = true := c72
                 clear c72
                 have H' := Aside0.mk H
                 clear H
                 have zlj := zO.out
                 have zmj := zD.out
                 have znj := zP.out
                 have zoj := zE.out
                 have zpd : w66.cell? ⟨zB, 0, none⟩ = some (.bool false) := (zc zC.out 0).trans rfl
                 have zqd : w66.cell? ⟨zB, 1, none⟩ = some (.int .i64 0) := (zc zC.out 1).trans rfl
                 have zrd : w66.cell? ⟨zB, 2, none⟩ = some (.int .i64 0) := (zc zC.out 2).trans rfl
                 have zsd : w66.cell? ⟨zB, 3, none⟩ = some (.int .i64 0) := (zc zC.out 3).trans rfl
                 have ztd : w66.cell? ⟨zB, 4, none⟩ = some (.int .i64 0) := (zc zC.out 4).trans rfl
                 have zud : w66.cell? ⟨zB, 5, none⟩ = some (.int .i64 0) := (zc zC.out 5).trans rfl
                 have zvd := zb zC.out 0
                 have zwd := zb zC.out 1
                 have zxd := zb zC.out 2
                 have zyd := zb zC.out 3
                 have zzd := zb zC.out 4
                 have zAd := zb zC.out 5
                 have zpj := zJ.out
                 have zqj := zM.out
                 have zBd : w66.cell? ⟨zF, 0, none⟩ = some (.int .i64 t256) := (zc zz.out 0).trans rfl
                 have zCd : w66.cell? ⟨zF, 1, none⟩ = some (.int .i64 t257) := (zc zz.out 1).trans rfl
                 have zDd : w66.cell? ⟨zF, 2, none⟩ = some (.int .i64 t258) := (zc zz.out 2).trans rfl
                 have zEd : w66.cell? ⟨zF, 3, none⟩ = some (.int .i64 t259) := (zc zz.out 3).trans rfl
                 have zFd : w66.cell? ⟨zF, 4, none⟩ = some (.int .i64 t260) := (zc zz.out 4).trans rfl
                 have zGd := zb zz.out 0
                 have zHd := zb zz.out 1
                 have zId := zb zz.out 2
                 have zJd := zb zz.out 3
                 have zKd := zb zz.out 4
                 go_wp2
                 go_meet
                 case rel => exact ⟨_, (true), (by first | rfl | (simp; done) | (simp [*]; done)), H', ⟨by have := HJ2.out; have := HJ9.out; have := HJ53.out; have := HK4.out; first | omega | exact Nat.le_refl _⟩, ⟨by (with_reducible repeat (first | apply Kd.R_alloc | apply Kd.R_drewN | apply Kd.R_drew)); exact Kd.R_mono (Kd.R_far (p := ⟨zB, 5, none⟩) (Kd.R_far (p := ⟨zB, 4, none⟩) (Kd.R_far (p := ⟨zB, 3, none⟩) (Kd.R_far (p := ⟨zB, 2, none⟩) (Kd.R_far (p := ⟨zB, 1, none⟩) (Kd.R_far (p := ⟨zB, 0, none⟩) (Kd.R_types zK.out zC.out (by decide)) (fun _ hk => hk.2) (.bool true)) (fun _ hk => hk.2) (.int .i64 t287)) (fun _ hk => hk.2) (.int .i64 t288)) (fun _ hk => hk.2) (.int .i64 t289)) (fun _ hk => hk.2) (.int .i64 t290)) (fun _ hk => hk.2) (.int .i64 t291)) (fun _ hk => hk.1)⟩, ⟨by (with_reducible repeat (first | apply Kd.R_alloc | apply Kd.R_drewN | apply Kd.R_drew)); exact Kd.R_mono (Kd.R_far (p := ⟨zB, 5, none⟩) (Kd.R_far (p := ⟨zB, 4, none⟩) (Kd.R_far (p := ⟨zB, 3, none⟩) (Kd.R_far (p := ⟨zB, 2, none⟩) (Kd.R_far (p := ⟨zB, 1, none⟩) (Kd.R_far (p := ⟨zB, 0, none⟩) (Kd.R_types zL.out zC.out (by decide)) (fun _ hk => hk.2) (.bool true)) (fun _ hk => hk.2) (.int .i64 t287)) (fun _ hk => hk.2) (.int .i64 t288)) (fun _ hk => hk.2) (.int .i64 t289)) (fun _ hk => hk.2) (.int .i64 t290)) (fun _ hk => hk.2) (.int .i64 t291)) (fun _ hk => hk.1)⟩, ⟨by (with_reducible repeat (first | refine zf ?_ _ | refine zi ?_ | refine ze ?_ _)); refine zm ?_ zD.out _; (with_reducible repeat (first | refine zf ?_ _ | refine zi ?_ | refine ze ?_ _)); refine zm ?_ zD.out _; (with_reducible repeat (first | refine zf ?_ _ | refine zi ?_ | refine ze ?_ _)); refine zm ?_ zD.out _; (with_reducible repeat (first | refine zf ?_ _ | refine zi ?_ | refine ze ?_ _)); refine zm ?_ zD.out _; (with_reducible repeat (first | refine zf ?_ _ | refine zi ?_ | refine ze ?_ _)); refine zm ?_ zD.out _; (with_reducible repeat (first | refine zf ?_ _ | refine zi ?_ | refine ze ?_ _)); refine zm ?_ zD.out _; (with_reducible repeat (first | refine zf ?_ _ | refine zi ?_ | refine ze ?_ _)); exact zz.out⟩, ⟨by (with_reducible repeat (first | refine zf ?_ _ | refine zi ?_ | refine ze ?_ _)); refine zm ?_ zE.out _; (with_reducible repeat (first | refine zf ?_ _ | refine zi ?_ | refine ze ?_ _)); refine zm ?_ zE.out _; (with_reducible repeat (first | refine zf ?_ _ | refine zi ?_ | refine ze ?_ _)); refine zm ?_ zE.out _; (with_reducible repeat (first | refine zf ?_ _ | refine zi ?_ | refine ze ?_ _)); refine zm ?_ zE.out _; (with_reducible repeat (first | refine zf ?_ _ | refine zi ?_ | refine ze ?_ _)); refine zm ?_ zE.out _; (with_reducible repeat (first | refine zf ?_ _ | refine zi ?_ | refine ze ?_ _)); refine zm ?_ zE.out _; (with_reducible repeat (first | refine zf ?_ _ | refine zi ?_ | refine ze ?_ _)); exact zA.out⟩, ⟨by (with_reducible repeat (first | refine zf ?_ _ | refine zi ?_ | refine ze ?_ _)); refine zn (cs := #[.bool true, .int .i64 t287, .int .i64 t288, .int .i64 t289, .int .i64 t290, .int .i64 0]) ?_ 5 _ rfl; (with_reducible repeat (first | refine zf ?_ _ | refine zi ?_ | refine ze ?_ _)); refine zn (cs := #[.bool true, .int .i64 t287, .int .i64 t288, .int .i64 t289, .int .i64 0, .int .i64 0]) ?_ 4 _ rfl; (with_reducible repeat (first | refine zf ?_ _ | refine zi ?_ | refine ze ?_ _)); refine zn (cs := #[.bool true, .int .i64 t287, .int .i64 t288, .int .i64 0, .int .i64 0, .int .i64 0]) ?_ 3 _ rfl; (with_reducible repeat (first | refine zf ?_ _ | refine zi ?_ | refine ze ?_ _)); refine zn (cs := #[.bool true, .int .i64 t287, .int .i64 0, .int .i64 0, .int .i64 0, .int .i64 0]) ?_ 2 _ rfl; (with_reducible repeat (first | refine zf ?_ _ | refine zi ?_ | refine ze ?_ _)); refine zn (cs := #[.bool true, .int .i64 0, .int .i64 0, .int .i64 0, .int .i64 0, .int .i64 0]) ?_ 1 _ rfl; (with_reducible repeat (first | refine zf ?_ _ | refine zi ?_ | refine ze ?_ _)); refine zn (cs := #[.bool false, .int .i64 0, .int .i64 0, .int .i64 0, .int .i64 0, .int .i64 0]) ?_ 0 _ rfl; (with_reducible repeat (first | refine zf ?_ _ | refine zi ?_ | refine ze ?_ _)); exact zC.out⟩, ⟨by repeat (first | (with_reducible first | exact HB.out | apply zg | apply zd | apply zh | refine zj ?_ zH.out | refine zj ?_ zI.out | refine zj ?_ zS.out) | exact HB.out)⟩⟩
                ·rw [if_neg c72] at H
                 have c72b0 : (!(t287 == t256) || (!(t288 == t257) || (!(t289 == t258) || (!(t290 == t259) || (!(t291 == t260)))))) = false := by simpa using c72
                 clear c72
                 by_cases c78 : x9_4 = 64
                 ·rw [if_pos c78] at H
                  have c78b0 : (x9_4 == 64) = true := beq_iff_eq.mpr c78
                  have c78b1 : (x9_4 != 64) = false := bne_eq_false_iff_eq.mpr c78
                  clear c78
                  have H' := Aside0.mk H
                  clear H
                  have zrj := zO.out
                  have zsj := zD.out
                  have ztj := zP.out
                  have zuj := zE.out
                  have zLd : w66.cell? ⟨zB, 0, none⟩ = some (.bool false) := (zc zC.out 0).trans rfl
                  have zMd : w66.cell? ⟨zB, 1, none⟩ = some (.int .i64 0) := (zc zC.out 1).trans rfl
                  have zNd : w66.cell? ⟨zB, 2, none⟩ = some (.int .i64 0) := (zc zC.out 2).trans rfl
                  have zOd : w66.cell? ⟨zB, 3, none⟩ = some (.int .i64 0) := (zc zC.out 3).trans rfl
                  have zPd : w66.cell? ⟨zB, 4, none⟩ = some (.int .i64 0) := (zc zC.out 4).trans rfl
                  have zQd : w66.cell? ⟨zB, 5, none⟩ = some (.int .i64 0) := (zc zC.out 5).trans rfl
                  have zRd := zb zC.out 0
                  have zSd := zb zC.out 1
                  have zTd := zb zC.out 2
                  have zUd := zb zC.out 3
                  have zVd := zb zC.out 4
                  have zWd := zb zC.out 5
                  have zvj := zJ.out
                  have zwj := zM.out
                  have zXd : w66.cell? ⟨zF, 0, none⟩ = some (.int .i64 t256) := (zc zz.out 0).trans rfl
                  have zYd : w66.cell? ⟨zF, 1, none⟩ = some (.int .i64 t257) := (zc zz.out 1).trans rfl
                  have zZd : w66.cell? ⟨zF, 2, none⟩ = some (.int .i64 t258) := (zc zz.out 2).trans rfl
                  have zae : w66.cell? ⟨zF, 3, none⟩ = some (.int .i64 t259) := (zc zz.out 3).trans rfl
                  have zbe : w66.cell? ⟨zF, 4, none⟩ = some (.int .i64 t260) := (zc zz.out 4).trans rfl
                  have zce := zb zz.out 0
                  have zde := zb zz.out 1
                  have zee := zb zz.out 2
                  have zfe := zb zz.out 3
                  have zge := zb zz.out 4
                  have zhe : w66.cell? ⟨zG, 0, none⟩ = some (.int .i64 t262) := (zc zA.out 0).trans rfl
                  have zie : w66.cell? ⟨zG, 1, none⟩ = some (.int .i64 t263) := (zc zA.out 1).trans rfl
                  have zje : w66.cell? ⟨zG, 2, none⟩ = some (.int .i64 t264) := (zc zA.out 2).trans rfl
                  have zke : w66.cell? ⟨zG, 3, none⟩ = some (.int .i64 t265) := (zc zA.out 3).trans rfl
                  have zle : w66.cell? ⟨zG, 4, none⟩ = some (.int .i64 t266) := (zc zA.out 4).trans rfl
                  have zme := zb zA.out 0
                  have zne := zb zA.out 1
                  have zoe := zb zA.out 2
                  have zpe := zb zA.out 3
                  have zqe := zb zA.out 4
                  go_wp2
                  go_meet
                  case rel => exact ⟨_, ((!(t287 == t262) || (!(t288 == t263) || (!(t289 == t264) || (!(t290 == t265) || (!(t291 == t266))))))), (by first | rfl | (simp; done) | (simp [*]; done)), H', ⟨by have := HJ2.out; have := HJ9.out; have := HJ53.out; have := HK4.out; first | omega | exact Nat.le_refl _⟩, ⟨by (with_reducible repeat (first | apply Kd.R_alloc | apply Kd.R_drewN | apply Kd.R_drew)); exact Kd.R_mono (Kd.R_far (p := ⟨zB, 5, none⟩) (Kd.R_far (p := ⟨zB, 4, none⟩) (Kd.R_far (p := ⟨zB, 3, none⟩) (Kd.R_far (p := ⟨zB, 2, none⟩) (Kd.R_far (p := ⟨zB, 1, none⟩) (Kd.R_far (p := ⟨zB, 0, none⟩) (Kd.R_types zK.out zC.out (by decide)) (fun _ hk => hk.2) (.bool true)) (fun _ hk => hk.2) (.int .i64 t287)) (fun _ hk => hk.2) (.int .i64 t288)) (fun _ hk => hk.2) (.int .i64 t289)) (fun _ hk => hk.2) (.int .i64 t290)) (fun _ hk => hk.2) (.int .i64 t291)) (fun _ hk => hk.1)⟩, ⟨by (with_reducible repeat (first | apply Kd.R_alloc | apply Kd.R_drewN | apply Kd.R_drew)); exact Kd.R_mono (Kd.R_far (p := ⟨zB, 5, none⟩) (Kd.R_far (p := ⟨zB, 4, none⟩) (Kd.R_far (p := ⟨zB, 3, none⟩) (Kd.R_far (p := ⟨zB, 2, none⟩) (Kd.R_far (p := ⟨zB, 1, none⟩) (Kd.R_far (p := ⟨zB, 0, none⟩) (Kd.R_types zL.out zC.out (by decide)) (fun _ hk => hk.2) (.bool true)) (fun _ hk => hk.2) (.int .i64 t287)) (fun _ hk => hk.2) (.int .i64 t288)) (fun _ hk => hk.2) (.int .i64 t289)) (fun _ hk => hk.2) (.int .i64 t290)) (fun _ hk => hk.2) (.int .i64 t291)) (fun _ hk => hk.1)⟩, ⟨by (with_reducible repeat (first | refine zf ?_ _ | refine zi ?_ | refine ze ?_ _)); refine zm ?_ zD.out _; (with_reducible repeat (first | refine zf ?_ _ | refine zi ?_ | refine ze ?_ _)); refine zm ?_ zD.out _; (with_reducible repeat (first | refine zf ?_ _ | refine zi ?_ | refine ze ?_ _)); refine zm ?_ zD.out _; (with_reducible repeat (first | refine zf ?_ _ | refine zi ?_ | refine ze ?_ _)); refine zm ?_ zD.out _; (with_reducible repeat (first | refine zf ?_ _ | refine zi ?_ | refine ze ?_ _)); refine zm ?_ zD.out _; (with_reducible repeat (first | refine zf ?_ _ | refine zi ?_ | refine ze ?_ _)); refine zm ?_ zD.out _; (with_reducible repeat (first | refine zf ?_ _ | refine zi ?_ | refine ze ?_ _)); exact zz.out⟩, ⟨by (with_reducible repeat (first | refine zf ?_ _ | refine zi ?_ | refine ze ?_ _)); refine zm ?_ zE.out _; (with_reducible repeat (first | refine zf ?_ _ | refine zi ?_ | refine ze ?_ _)); refine zm ?_ zE.out _; (with_reducible repeat (first | refine zf ?_ _ | refine zi ?_ | refine ze ?_ _)); refine zm ?_ zE.out _; (with_reducible repeat (first | refine zf ?_ _ | refine zi ?_ | refine ze ?_ _)); refine zm ?_ zE.out _; (with_reducible repeat (first | refine zf ?_ _ | refine zi ?_ | refine ze ?_ _)); refine zm ?_ zE.out _; (with_reducible repeat (first | refine zf ?_ _ | refine zi ?_ | refine ze ?_ _)); refine zm ?_ zE.out _; (with_reducible repeat (first | refine zf ?_ _ | refine zi ?_ | refine ze ?_ _)); exact zA.out⟩, ⟨by (with_reducible repeat (first | refine zf ?_ _ | refine zi ?_ | refine ze ?_ _)); refine zn (cs := #[.bool true, .int .i64 t287, .int .i64 t288, .int .i64 t289, .int .i64 t290, .int .i64 0]) ?_ 5 _ rfl; (with_reducible repeat (first | refine zf ?_ _ | refine zi ?_ | refine ze ?_ _)); refine zn (cs := #[.bool true, .int .i64 t287, .int .i64 t288, .int .i64 t289, .int .i64 0, .int .i64 0]) ?_ 4 _ rfl; (with_reducible repeat (first | refine zf ?_ _ | refine zi ?_ | refine ze ?_ _)); refine zn (cs := #[.bool true, .int .i64 t287, .int .i64 t288, .int .i64 0, .int .i64 0, .int .i64 0]) ?_ 3 _ rfl; (with_reducible repeat (first | refine zf ?_ _ | refine zi ?_ | refine ze ?_ _)); refine zn (cs := #[.bool true, .int .i64 t287, .int .i64 0, .int .i64 0, .int .i64 0, .int .i64 0]) ?_ 2 _ rfl; (with_reducible repeat (first | refine zf ?_ _ | refine zi ?_ | refine ze ?_ _)); refine zn (cs := #[.bool true, .int .i64 0, .int .i64 0, .int .i64 0, .int .i64 0, .int .i64 0]) ?_ 1 _ rfl; (with_reducible repeat (first | refine zf ?_ _ | refine zi ?_ | refine ze ?_ _)); refine zn (cs := #[.bool false, .int .i64 0, .int .i64 0, .int .i64 0, .int .i64 0, .int .i64 0]) ?_ 0 _ rfl; (with_reducible repeat (first | refine zf ?_ _ | refine zi ?_ | refine ze ?_ _)); exact zC.out⟩, ⟨by repeat (first | (with_reducible first | exact HB.out | apply zg | apply zd | apply zh | refine zj ?_ zH.out | refine zj ?_ zI.out | refine zj ?_ zS.out) | exact HB.out)⟩⟩
                 ·rw [if_neg c78] at H
                  have c78b0 : (x9_4 == 64) = false := beq_eq_false_iff_ne.mpr c78
                  have c78b1 : (x9_4 != 64) = true := bne_iff_ne.mpr c78
                  have H' := Aside0.mk H
                  clear H
                  have zxj := zO.out
                  have zyj := zD.out
                  have zzj := zP.out
                  have zAj := zE.out
                  have zre : w66.cell? ⟨zB, 0, none⟩ = some (.bool false) := (zc zC.out 0).trans rfl
                  have zse : w66.cell? ⟨zB, 1, none⟩ = some (.int .i64 0) := (zc zC.out 1).trans rfl
                  have zte : w66.cell? ⟨zB, 2, none⟩ = some (.int .i64 0) := (zc zC.out 2).trans rfl
                  have zue : w66.cell? ⟨zB, 3, none⟩ = some (.int .i64 0) := (zc zC.out 3).trans rfl
                  have zve : w66.cell? ⟨zB, 4, none⟩ = some (.int .i64 0) := (zc zC.out 4).trans rfl
                  have zwe : w66.cell? ⟨zB, 5, none⟩ = some (.int .i64 0) := (zc zC.out 5).trans rfl
                  have zxe := zb zC.out 0
                  have zye := zb zC.out 1
                  have zze := zb zC.out 2
                  have zAe := zb zC.out 3
                  have zBe := zb zC.out 4
                  have zCe := zb zC.out 5
                  have zBj := zJ.out
                  have zCj := zM.out
                  have zDe : w66.cell? ⟨zF, 0, none⟩ = some (.int .i64 t256) := (zc zz.out 0).trans rfl
                  have zEe : w66.cell? ⟨zF, 1, none⟩ = some (.int .i64 t257) := (zc zz.out 1).trans rfl
                  have zFe : w66.cell? ⟨zF, 2, none⟩ = some (.int .i64 t258) := (zc zz.out 2).trans rfl
                  have zGe : w66.cell? ⟨zF, 3, none⟩ = some (.int .i64 t259) := (zc zz.out 3).trans rfl
                  have zHe : w66.cell? ⟨zF, 4, none⟩ = some (.int .i64 t260) := (zc zz.out 4).trans rfl
                  have zIe := zb zz.out 0
                  have zJe := zb zz.out 1
                  have zKe := zb zz.out 2
                  have zLe := zb zz.out 3
                  have zMe := zb zz.out 4
                  go_wp2
                  go_meet
                  case rel => exact ⟨_, (false), (by first | rfl | (simp; done) | (simp [*]; done)), H', ⟨by have := HJ2.out; have := HJ9.out; have := HJ53.out; have := HK4.out; first | omega | exact Nat.le_refl _⟩, ⟨by (with_reducible repeat (first | apply Kd.R_alloc | apply Kd.R_drewN | apply Kd.R_drew)); exact Kd.R_mono (Kd.R_far (p := ⟨zB, 5, none⟩) (Kd.R_far (p := ⟨zB, 4, none⟩) (Kd.R_far (p := ⟨zB, 3, none⟩) (Kd.R_far (p := ⟨zB, 2, none⟩) (Kd.R_far (p := ⟨zB, 1, none⟩) (Kd.R_far (p := ⟨zB, 0, none⟩) (Kd.R_types zK.out zC.out (by decide)) (fun _ hk => hk.2) (.bool true)) (fun _ hk => hk.2) (.int .i64 t287)) (fun _ hk => hk.2) (.int .i64 t288)) (fun _ hk => hk.2) (.int .i64 t289)) (fun _ hk => hk.2) (.int .i64 t290)) (fun _ hk => hk.2) (.int .i64 t291)) (fun _ hk => hk.1)⟩, ⟨by (with_reducible repeat (first | apply Kd.R_alloc | apply Kd.R_drewN | apply Kd.R_drew)); exact Kd.R_mono (Kd.R_far (p := ⟨zB, 5, none⟩) (Kd.R_far (p := ⟨zB, 4, none⟩) (Kd.R_far (p := ⟨zB, 3, none⟩) (Kd.R_far (p := ⟨zB, 2, none⟩) (Kd.R_far (p := ⟨zB, 1, none⟩) (Kd.R_far (p := ⟨zB, 0, none⟩) (Kd.R_types zL.out zC.out (by decide)) (fun _ hk => hk.2) (.bool true)) (fun _ hk => hk.2) (.int .i64 t287)) (fun _ hk => hk.2) (.int .i64 t288)) (fun _ hk => hk.2) (.int .i64 t289)) (fun _ hk => hk.2) (.int .i64 t290)) (fun _ hk => hk.2) (.int .i64 t291)) (fun _ hk => hk.1)⟩, ⟨by (with_reducible repeat (first | refine zf ?_ _ | refine zi ?_ | refine ze ?_ _)); refine zm ?_ zD.out _; (with_reducible repeat (first | refine zf ?_ _ | refine zi ?_ | refine ze ?_ _)); refine zm ?_ zD.out _; (with_reducible repeat (first | refine zf ?_ _ | refine zi ?_ | refine ze ?_ _)); refine zm ?_ zD.out _; (with_reducible repeat (first | refine zf ?_ _ | refine zi ?_ | refine ze ?_ _)); refine zm ?_ zD.out _; (with_reducible repeat (first | refine zf ?_ _ | refine zi ?_ | refine ze ?_ _)); refine zm ?_ zD.out _; (with_reducible repeat (first | refine zf ?_ _ | refine zi ?_ | refine ze ?_ _)); refine zm ?_ zD.out _; (with_reducible repeat (first | refine zf ?_ _ | refine zi ?_ | refine ze ?_ _)); exact zz.out⟩, ⟨by (with_reducible repeat (first | refine zf ?_ _ | refine zi ?_ | refine ze ?_ _)); refine zm ?_ zE.out _; (with_reducible repeat (first | refine zf ?_ _ | refine zi ?_ | refine ze ?_ _)); refine zm ?_ zE.out _; (with_reducible repeat (first | refine zf ?_ _ | refine zi ?_ | refine ze ?_ _)); refine zm ?_ zE.out _; (with_reducible repeat (first | refine zf ?_ _ | refine zi ?_ | refine ze ?_ _)); refine zm ?_ zE.out _; (with_reducible repeat (first | refine zf ?_ _ | refine zi ?_ | refine ze ?_ _)); refine zm ?_ zE.out _; (with_reducible repeat (first | refine zf ?_ _ | refine zi ?_ | refine ze ?_ _)); refine zm ?_ zE.out _; (with_reducible repeat (first | refine zf ?_ _ | refine zi ?_ | refine ze ?_ _)); exact zA.out⟩, ⟨by (with_reducible repeat (first | refine zf ?_ _ | refine zi ?_ | refine ze ?_ _)); refine zn (cs := #[.bool true, .int .i64 t287, .int .i64 t288, .int .i64 t289, .int .i64 t290, .int .i64 0]) ?_ 5 _ rfl; (with_reducible repeat (first | refine zf ?_ _ | refine zi ?_ | refine ze ?_ _)); refine zn (cs := #[.bool true, .int .i64 t287, .int .i64 t288, .int .i64 t289, .int .i64 0, .int .i64 0]) ?_ 4 _ rfl; (with_reducible repeat (first | refine zf ?_ _ | refine zi ?_ | refine ze ?_ _)); refine zn (cs := #[.bool true, .int .i64 t287, .int .i64 t288, .int .i64 0, .int .i64 0, .int .i64 0]) ?_ 3 _ rfl; (with_reducible repeat (first | refine zf ?_ _ | refine zi ?_ | refine ze ?_ _)); refine zn (cs := #[.bool true, .int .i64 t287, .int .i64 0, .int .i64 0, .int .i64 0, .int .i64 0]) ?_ 2 _ rfl; (with_reducible repeat (first | refine zf ?_ _ | refine zi ?_ | refine ze ?_ _)); refine zn (cs := #[.bool true, .int .i64 0, .int .i64 0, .int .i64 0, .int .i64 0, .int .i64 0]) ?_ 1 _ rfl; (with_reducible repeat (first | refine zf ?_ _ | refine zi ?_ | refine ze ?_ _)); refine zn (cs := #[.bool false, .int .i64 0, .int .i64 0, .int .i64 0, .int .i64 0, .int .i64 0]) ?_ 0 _ rfl; (with_reducible repeat (first | refine zf ?_ _ | refine zi ?_ | refine ze ?_ _)); exact zC.out⟩, ⟨by repeat (first | (with_reducible first | exact HB.out | apply zg | apply zd | apply zh | refine zj ?_ zH.out | refine zj ?_ zI.out | refine zj ?_ zS.out) | exact HB.out)⟩⟩
               ·replace c71 := Bool.eq_false_iff.mpr c71
                subst c71
                have H1 : (laws_FnTornSuper.j4 k4 t268 t271 x9_4 true t256 t257 t258 t259 t260 t262 t263 t264 t265 t266 false t287 t288 t289 t290 t291) = some r := by rw [if_neg (show ¬ (false = true) by decide)] at H; exact H
                clear H
                have H := H1
                clear H1
                have H' := Aside0.mk H
                clear H
                have zDj := zO.out
                have zEj := zD.out
                have zFj := zP.out
                have zGj := zE.out
                have zNe : w66.cell? ⟨zB, 0, none⟩ = some (.bool false) := (zc zC.out 0).trans rfl
                have zOe : w66.cell? ⟨zB, 1, none⟩ = some (.int .i64 0) := (zc zC.out 1).trans rfl
                have zPe : w66.cell? ⟨zB, 2, none⟩ = some (.int .i64 0) := (zc zC.out 2).trans rfl
                have zQe : w66.cell? ⟨zB, 3, none⟩ = some (.int .i64 0) := (zc zC.out 3).trans rfl
                have zRe : w66.cell? ⟨zB, 4, none⟩ = some (.int .i64 0) := (zc zC.out 4).trans rfl
                have zSe : w66.cell? ⟨zB, 5, none⟩ = some (.int .i64 0) := (zc zC.out 5).trans rfl
                have zTe := zb zC.out 0
                have zUe := zb zC.out 1
                have zVe := zb zC.out 2
                have zWe := zb zC.out 3
                have zXe := zb zC.out 4
                have zYe := zb zC.out 5
                go_wp2
                go_meet
                case rel => exact ⟨_, (true), (by first | rfl | (simp; done) | (simp [*]; done)), H', ⟨by have := HJ2.out; have := HJ9.out; have := HJ53.out; have := HK4.out; first | omega | exact Nat.le_refl _⟩, ⟨by (with_reducible repeat (first | apply Kd.R_alloc | apply Kd.R_drewN | apply Kd.R_drew)); exact Kd.R_mono (Kd.R_far (p := ⟨zB, 5, none⟩) (Kd.R_far (p := ⟨zB, 4, none⟩) (Kd.R_far (p := ⟨zB, 3, none⟩) (Kd.R_far (p := ⟨zB, 2, none⟩) (Kd.R_far (p := ⟨zB, 1, none⟩) (Kd.R_far (p := ⟨zB, 0, none⟩) (Kd.R_types zK.out zC.out (by decide)) (fun _ hk => hk.2) (.bool false)) (fun _ hk => hk.2) (.int .i64 t287)) (fun _ hk => hk.2) (.int .i64 t288)) (fun _ hk => hk.2) (.int .i64 t289)) (fun _ hk => hk.2) (.int .i64 t290)) (fun _ hk => hk.2) (.int .i64 t291)) (fun _ hk => hk.1)⟩, ⟨by (with_reducible repeat (first | apply Kd.R_alloc | apply Kd.R_drewN | apply Kd.R_drew)); exact Kd.R_mono (Kd.R_far (p := ⟨zB, 5, none⟩) (Kd.R_far (p := ⟨zB, 4, none⟩) (Kd.R_far (p := ⟨zB, 3, none⟩) (Kd.R_far (p := ⟨zB, 2, none⟩) (Kd.R_far (p := ⟨zB, 1, none⟩) (Kd.R_far (p := ⟨zB, 0, none⟩) (Kd.R_types zL.out zC.out (by decide)) (fun _ hk => hk.2) (.bool false)) (fun _ hk => hk.2) (.int .i64 t287)) (fun _ hk => hk.2) (.int .i64 t288)) (fun _ hk => hk.2) (.int .i64 t289)) (fun _ hk => hk.2) (.int .i64 t290)) (fun _ hk => hk.2) (.int .i64 t291)) (fun _ hk => hk.1)⟩, ⟨by (with_reducible repeat (first | refine zf ?_ _ | refine zi ?_ | refine ze ?_ _)); refine zm ?_ zD.out _; (with_reducible repeat (first | refine zf ?_ _ | refine zi ?_ | refine ze ?_ _)); refine zm ?_ zD.out _; (with_reducible repeat (first | refine zf ?_ _ | refine zi ?_ | refine ze ?_ _)); refine zm ?_ zD.out _; (with_reducible repeat (first | refine zf ?_ _ | refine zi ?_ | refine ze ?_ _)); refine zm ?_ zD.out _; (with_reducible repeat (first | refine zf ?_ _ | refine zi ?_ | refine ze ?_ _)); refine zm ?_ zD.out _; (with_reducible repeat (first | refine zf ?_ _ | refine zi ?_ | refine ze ?_ _)); refine zm ?_ zD.out _; (with_reducible repeat (first | refine zf ?_ _ | refine zi ?_ | refine ze ?_ _)); exact zz.out⟩, ⟨by (with_reducible repeat (first | refine zf ?_ _ | refine zi ?_ | refine ze ?_ _)); refine zm ?_ zE.out _; (with_reducible repeat (first | refine zf ?_ _ | refine zi ?_ | refine ze ?_ _)); refine zm ?_ zE.out _; (with_reducible repeat (first | refine zf ?_ _ | refine zi ?_ | refine ze ?_ _)); refine zm ?_ zE.out _; (with_reducible repeat (first | refine zf ?_ _ | refine zi ?_ | refine ze ?_ _)); refine zm ?_ zE.out _; (with_reducible repeat (first | refine zf ?_ _ | refine zi ?_ | refine ze ?_ _)); refine zm ?_ zE.out _; (with_reducible repeat (first | refine zf ?_ _ | refine zi ?_ | refine ze ?_ _)); refine zm ?_ zE.out _; (with_reducible repeat (first | refine zf ?_ _ | refine zi ?_ | refine ze ?_ _)); exact zA.out⟩, ⟨by (with_reducible repeat (first | refine zf ?_ _ | refine zi ?_ | refine ze ?_ _)); refine zn (cs := #[.bool false, .int .i64 t287, .int .i64 t288, .int .i64 t289, .int .i64 t290, .int .i64 0]) ?_ 5 _ rfl; (with_reducible repeat (first | refine zf ?_ _ | refine zi ?_ | refine ze ?_ _)); refine zn (cs := #[.bool false, .int .i64 t287, .int .i64 t288, .int .i64 t289, .int .i64 0, .int .i64 0]) ?_ 4 _ rfl; (with_reducible repeat (first | refine zf ?_ _ | refine zi ?_ | refine ze ?_ _)); refine zn (cs := #[.bool false, .int .i64 t287, .int .i64 t288, .int .i64 0, .int .i64 0, .int .i64 0]) ?_ 3 _ rfl; (with_reducible repeat (first | refine zf ?_ _ | refine zi ?_ | refine ze ?_ _)); refine zn (cs := #[.bool false, .int .i64 t287, .int .i64 0, .int .i64 0, .int .i64 0, .int .i64 0]) ?_ 2 _ rfl; (with_reducible repeat (first | refine zf ?_ _ | refine zi ?_ | refine ze ?_ _)); refine zn (cs := #[.bool false, .int .i64 0, .int .i64 0, .int .i64 0, .int .i64 0, .int .i64 0]) ?_ 1 _ rfl; (with_reducible repeat (first | refine zf ?_ _ | refine zi ?_ | refine ze ?_ _)); refine zn (cs := #[.bool false, .int .i64 0, .int .i64 0, .int .i64 0, .int .i64 0, .int .i64 0]) ?_ 0 _ rfl; (with_reducible repeat (first | refine zf ?_ _ | refine zi ?_ | refine ze ?_ _)); exact zC.out⟩, ⟨by repeat (first | (with_reducible first | exact HB.out | apply zg | apply zd | apply zh | refine zj ?_ zH.out | refine zj ?_ zI.out | refine zj ?_ zS.out) | exact HB.out)⟩⟩
              ·rw [if_neg c70] at H
               have c70b0 : (x9_4 == 0) = false := beq_eq_false_iff_ne.mpr c70
               have c70b1 : (x9_4 != 0) = true := bne_iff_ne.mpr c70
               (first | rw [c70b0] | (simp only [zv, zx]; rw [c70b0]) | skip)
               by_cases c93 : x9_4 = 64
               ·rw [if_pos c93] at H
                have c93b0 : (x9_4 == 64) = true := beq_iff_eq.mpr c93
                have c93b1 : (x9_4 != 64) = false := bne_eq_false_iff_eq.mpr c93
                clear c93
                by_cases c94 : t286 = true
                ·subst c94
                 have H1 : (laws_FnTornSuper.j4 k4 t268 t271 x9_4 (!(t287 == t262) || (!(t288 == t263) || (!(t289 == t264) || (!(t290 == t265) || (!(t291 == t266)))))) t256 t257 t258 t259 t260 t262 t263 t264 t265 t266 true t287 t288 t289 t290 t291) = some r := by rw [if_pos rfl] at H; exact H
                 clear H
                 have H := H1
                 clear H1
                 have H' := Aside0.mk H
                 clear H
                 have zHj := zO.out
                 have zIj := zD.out
                 have zJj := zP.out
                 have zKj := zE.out
                 have zZe : w66.cell? ⟨zB, 0, none⟩ = some (.bool false) := (zc zC.out 0).trans rfl
                 have zaf : w66.cell? ⟨zB, 1, none⟩ = some (.int .i64 0) := (zc zC.out 1).trans rfl
                 have zbf : w66.cell? ⟨zB, 2, none⟩ = some (.int .i64 0) := (zc zC.out 2).trans rfl
                 have zcf : w66.cell? ⟨zB, 3, none⟩ = some (.int .i64 0) := (zc zC.out 3).trans rfl
                 have zdf : w66.cell? ⟨zB, 4, none⟩ = some (.int .i64 0) := (zc zC.out 4).trans rfl
                 have zef : w66.cell? ⟨zB, 5, none⟩ = some (.int .i64 0) := (zc zC.out 5).trans rfl
                 have zff := zb zC.out 0
                 have zgf := zb zC.out 1
                 have zhf := zb zC.out 2
                 have zif := zb zC.out 3
                 have zjf := zb zC.out 4
                 have zkf := zb zC.out 5
                 have zLj := zM.out
                 have zMj := zJ.out
                 have zlf : w66.cell? ⟨zG, 0, none⟩ = some (.int .i64 t262) := (zc zA.out 0).trans rfl
                 have zmf : w66.cell? ⟨zG, 1, none⟩ = some (.int .i64 t263) := (zc zA.out 1).trans rfl
                 have znf : w66.cell? ⟨zG, 2, none⟩ = some (.int .i64 t264) := (zc zA.out 2).trans rfl
                 have zof : w66.cell? ⟨zG, 3, none⟩ = some (.int .i64 t265) := (zc zA.out 3).trans rfl
                 have zpf : w66.cell? ⟨zG, 4, none⟩ = some (.int .i64 t266) := (zc zA.out 4).trans rfl
                 have zqf := zb zA.out 0
                 have zrf := zb zA.out 1
                 have zsf := zb zA.out 2
                 have ztf := zb zA.out 3
                 have zuf := zb zA.out 4
                 go_wp2
                 go_meet
                 case rel => exact ⟨_, ((!(t287 == t262) || (!(t288 == t263) || (!(t289 == t264) || (!(t290 == t265) || (!(t291 == t266))))))), (by first | rfl | (simp; done) | (simp [*]; done)), H', ⟨by have := HJ2.out; have := HJ9.out; have := HJ53.out; have := HK4.out; first | omega | exact Nat.le_refl _⟩, ⟨by (with_reducible repeat (first | apply Kd.R_alloc | apply Kd.R_drewN | apply Kd.R_drew)); exact Kd.R_mono (Kd.R_far (p := ⟨zB, 5, none⟩) (Kd.R_far (p := ⟨zB, 4, none⟩) (Kd.R_far (p := ⟨zB, 3, none⟩) (Kd.R_far (p := ⟨zB, 2, none⟩) (Kd.R_far (p := ⟨zB, 1, none⟩) (Kd.R_far (p := ⟨zB, 0, none⟩) (Kd.R_types zK.out zC.out (by decide)) (fun _ hk => hk.2) (.bool true)) (fun _ hk => hk.2) (.int .i64 t287)) (fun _ hk => hk.2) (.int .i64 t288)) (fun _ hk => hk.2) (.int .i64 t289)) (fun _ hk => hk.2) (.int .i64 t290)) (fun _ hk => hk.2) (.int .i64 t291)) (fun _ hk => hk.1)⟩, ⟨by (with_reducible repeat (first | apply Kd.R_alloc | apply Kd.R_drewN | apply Kd.R_drew)); exact Kd.R_mono (Kd.R_far (p := ⟨zB, 5, none⟩) (Kd.R_far (p := ⟨zB, 4, none⟩) (Kd.R_far (p := ⟨zB, 3, none⟩) (Kd.R_far (p := ⟨zB, 2, none⟩) (Kd.R_far (p := ⟨zB, 1, none⟩) (Kd.R_far (p := ⟨zB, 0, none⟩) (Kd.R_types zL.out zC.out (by decide)) (fun _ hk => hk.2) (.bool true)) (fun _ hk => hk.2) (.int .i64 t287)) (fun _ hk => hk.2) (.int .i64 t288)) (fun _ hk => hk.2) (.int .i64 t289)) (fun _ hk => hk.2) (.int .i64 t290)) (fun _ hk => hk.2) (.int .i64 t291)) (fun _ hk => hk.1)⟩, ⟨by (with_reducible repeat (first | refine zf ?_ _ | refine zi ?_ | refine ze ?_ _)); refine zm ?_ zD.out _; (with_reducible repeat (first | refine zf ?_ _ | refine zi ?_ | refine ze ?_ _)); refine zm ?_ zD.out _; (with_reducible repeat (first | refine zf ?_ _ | refine zi ?_ | refine ze ?_ _)); refine zm ?_ zD.out _; (with_reducible repeat (first | refine zf ?_ _ | refine zi ?_ | refine ze ?_ _)); refine zm ?_ zD.out _; (with_reducible repeat (first | refine zf ?_ _ | refine zi ?_ | refine ze ?_ _)); refine zm ?_ zD.out _; (with_reducible repeat (first | refine zf ?_ _ | refine zi ?_ | refine ze ?_ _)); refine zm ?_ zD.out _; (with_reducible repeat (first | refine zf ?_ _ | refine zi ?_ | refine ze ?_ _)); exact zz.out⟩, ⟨by (with_reducible repeat (first | refine zf ?_ _ | refine zi ?_ | refine ze ?_ _)); refine zm ?_ zE.out _; (with_reducible repeat (first | refine zf ?_ _ | refine zi ?_ | refine ze ?_ _)); refine zm ?_ zE.out _; (with_reducible repeat (first | refine zf ?_ _ | refine zi ?_ | refine ze ?_ _)); refine zm ?_ zE.out _; (with_reducible repeat (first | refine zf ?_ _ | refine zi ?_ | refine ze ?_ _)); refine zm ?_ zE.out _; (with_reducible repeat (first | refine zf ?_ _ | refine zi ?_ | refine ze ?_ _)); refine zm ?_ zE.out _; (with_reducible repeat (first | refine zf ?_ _ | refine zi ?_ | refine ze ?_ _)); refine zm ?_ zE.out _; (with_reducible repeat (first | refine zf ?_ _ | refine zi ?_ | refine ze ?_ _)); exact zA.out⟩, ⟨by (with_reducible repeat (first | refine zf ?_ _ | refine zi ?_ | refine ze ?_ _)); refine zn (cs := #[.bool true, .int .i64 t287, .int .i64 t288, .int .i64 t289, .int .i64 t290, .int .i64 0]) ?_ 5 _ rfl; (with_reducible repeat (first | refine zf ?_ _ | refine zi ?_ | refine ze ?_ _)); refine zn (cs := #[.bool true, .int .i64 t287, .int .i64 t288, .int .i64 t289, .int .i64 0, .int .i64 0]) ?_ 4 _ rfl; (with_reducible repeat (first | refine zf ?_ _ | refine zi ?_ | refine ze ?_ _)); refine zn (cs := #[.bool true, .int .i64 t287, .int .i64 t288, .int .i64 0, .int .i64 0, .int .i64 0]) ?_ 3 _ rfl; (with_reducible repeat (first | refine zf ?_ _ | refine zi ?_ | refine ze ?_ _)); refine zn (cs := #[.bool true, .int .i64 t287, .int .i64 0, .int .i64 0, .int .i64 0, .int .i64 0]) ?_ 2 _ rfl; (with_reducible repeat (first | refine zf ?_ _ | refine zi ?_ | refine ze ?_ _)); refine zn (cs := #[.bool true, .int .i64 0, .int .i64 0, .int .i64 0, .int .i64 0, .int .i64 0]) ?_ 1 _ rfl; (with_reducible repeat (first | refine zf ?_ _ | refine zi ?_ | refine ze ?_ _)); refine zn (cs := #[.bool false, .int .i64 0, .int .i64 0, .int .i64 0, .int .i64 0, .int .i64 0]) ?_ 0 _ rfl; (with_reducible repeat (first | refine zf ?_ _ | refine zi ?_ | refine ze ?_ _)); exact zC.out⟩, ⟨by repeat (first | (with_reducible first | exact HB.out | apply zg | apply zd | apply zh | refine zj ?_ zH.out | refine zj ?_ zI.out | refine zj ?_ zS.out) | exact HB.out)⟩⟩
                ·replace c94 := Bool.eq_false_iff.mpr c94
                 subst c94
                 have H1 : (laws_FnTornSuper.j4 k4 t268 t271 x9_4 true t256 t257 t258 t259 t260 t262 t263 t264 t265 t266 false t287 t288 t289 t290 t291) = some r := by rw [if_neg (show ¬ (false = true) by decide)] at H; exact H
                 clear H
                 have H := H1
                 clear H1
                 have H' := Aside0.mk H
                 clear H
                 have zpi := zO.out
                 have zqi := zD.out
                 have zri := zP.out
                 have zsi := zE.out
                 have zRc : w66.cell? ⟨zB, 0, none⟩ = some (.bool false) := (zc zC.out 0).trans rfl
                 have zSc : w66.cell? ⟨zB, 1, none⟩ = some (.int .i64 0) := (zc zC.out 1).trans rfl
                 have zTc : w66.cell? ⟨zB, 2, none⟩ = some (.int .i64 0) := (zc zC.out 2).trans rfl
                 have zUc : w66.cell? ⟨zB, 3, none⟩ = some (.int .i64 0) := (zc zC.out 3).trans rfl
                 have zVc : w66.cell? ⟨zB, 4, none⟩ = some (.int .i64 0) := (zc zC.out 4).trans rfl
                 have zWc : w66.cell? ⟨zB, 5, none⟩ = some (.int .i64 0) := (zc zC.out 5).trans rfl
                 have zXc := zb zC.out 0
                 have zYc := zb zC.out 1
                 have zZc := zb zC.out 2
                 have zad := zb zC.out 3
                 have zbd := zb zC.out 4
                 have zcd := zb zC.out 5
                 go_wp2
                 go_meet
                 case rel => exact ⟨_, (true), (by first | rfl | (simp; done) | (simp [*]; done)), H', ⟨by have := HJ2.out; have := HJ9.out; have := HJ53.out; have := HK4.out; first | omega | exact Nat.le_refl _⟩, ⟨by (with_reducible repeat (first | apply Kd.R_alloc | apply Kd.R_drewN | apply Kd.R_drew)); exact Kd.R_mono (Kd.R_far (p := ⟨zB, 5, none⟩) (Kd.R_far (p := ⟨zB, 4, none⟩) (Kd.R_far (p := ⟨zB, 3, none⟩) (Kd.R_far (p := ⟨zB, 2, none⟩) (Kd.R_far (p := ⟨zB, 1, none⟩) (Kd.R_far (p := ⟨zB, 0, none⟩) (Kd.R_types zK.out zC.out (by decide)) (fun _ hk => hk.2) (.bool false)) (fun _ hk => hk.2) (.int .i64 t287)) (fun _ hk => hk.2) (.int .i64 t288)) (fun _ hk => hk.2) (.int .i64 t289)) (fun _ hk => hk.2) (.int .i64 t290)) (fun _ hk => hk.2) (.int .i64 t291)) (fun _ hk => hk.1)⟩, ⟨by (with_reducible repeat (first | apply Kd.R_alloc | apply Kd.R_drewN | apply Kd.R_drew)); exact Kd.R_mono (Kd.R_far (p := ⟨zB, 5, none⟩) (Kd.R_far (p := ⟨zB, 4, none⟩) (Kd.R_far (p := ⟨zB, 3, none⟩) (Kd.R_far (p := ⟨zB, 2, none⟩) (Kd.R_far (p := ⟨zB, 1, none⟩) (Kd.R_far (p := ⟨zB, 0, none⟩) (Kd.R_types zL.out zC.out (by decide)) (fun _ hk => hk.2) (.bool false)) (fun _ hk => hk.2) (.int .i64 t287)) (fun _ hk => hk.2) (.int .i64 t288)) (fun _ hk => hk.2) (.int .i64 t289)) (fun _ hk => hk.2) (.int .i64 t290)) (fun _ hk => hk.2) (.int .i64 t291)) (fun _ hk => hk.1)⟩, ⟨by (with_reducible repeat (first | refine zf ?_ _ | refine zi ?_ | refine ze ?_ _)); refine zm ?_ zD.out _; (with_reducible repeat (first | refine zf ?_ _ | refine zi ?_ | refine ze ?_ _)); refine zm ?_ zD.out _; (with_reducible repeat (first | refine zf ?_ _ | refine zi ?_ | refine ze ?_ _)); refine zm ?_ zD.out _; (with_reducible repeat (first | refine zf ?_ _ | refine zi ?_ | refine ze ?_ _)); refine zm ?_ zD.out _; (with_reducible repeat (first | refine zf ?_ _ | refine zi ?_ | refine ze ?_ _)); refine zm ?_ zD.out _; (with_reducible repeat (first | refine zf ?_ _ | refine zi ?_ | refine ze ?_ _)); refine zm ?_ zD.out _; (with_reducible repeat (first | refine zf ?_ _ | refine zi ?_ | refine ze ?_ _)); exact zz.out⟩, ⟨by (with_reducible repeat (first | refine zf ?_ _ | refine zi ?_ | refine ze ?_ _)); refine zm ?_ zE.out _; (with_reducible repeat (first | refine zf ?_ _ | refine zi ?_ | refine ze ?_ _)); refine zm ?_ zE.out _; (with_reducible repeat (first | refine zf ?_ _ | refine zi ?_ | refine ze ?_ _)); refine zm ?_ zE.out _; (with_reducible repeat (first | refine zf ?_ _ | refine zi ?_ | refine ze ?_ _)); refine zm ?_ zE.out _; (with_reducible repeat (first | refine zf ?_ _ | refine zi ?_ | refine ze ?_ _)); refine zm ?_ zE.out _; (with_reducible repeat (first | refine zf ?_ _ | refine zi ?_ | refine ze ?_ _)); refine zm ?_ zE.out _; (with_reducible repeat (first | refine zf ?_ _ | refine zi ?_ | refine ze ?_ _)); exact zA.out⟩, ⟨by (with_reducible repeat (first | refine zf ?_ _ | refine zi ?_ | refine ze ?_ _)); refine zn (cs := #[.bool false, .int .i64 t287, .int .i64 t288, .int .i64 t289, .int .i64 t290, .int .i64 0]) ?_ 5 _ rfl; (with_reducible repeat (first | refine zf ?_ _ | refine zi ?_ | refine ze ?_ _)); refine zn (cs := #[.bool false, .int .i64 t287, .int .i64 t288, .int .i64 t289, .int .i64 0, .int .i64 0]) ?_ 4 _ rfl; (with_reducible repeat (first | refine zf ?_ _ | refine zi ?_ | refine ze ?_ _)); refine zn (cs := #[.bool false, .int .i64 t287, .int .i64 t288, .int .i64 0, .int .i64 0, .int .i64 0]) ?_ 3 _ rfl; (with_reducible repeat (first | refine zf ?_ _ | refine zi ?_ | refine ze ?_ _)); refine zn (cs := #[.bool false, .int .i64 t287, .int .i64 0, .int .i64 0, .int .i64 0, .int .i64 0]) ?_ 2 _ rfl; (with_reducible repeat (first | refine zf ?_ _ | refine zi ?_ | refine ze ?_ _)); refine zn (cs := #[.bool false, .int .i64 0, .int .i64 0, .int .i64 0, .int .i64 0, .int .i64 0]) ?_ 1 _ rfl; (with_reducible repeat (first | refine zf ?_ _ | refine zi ?_ | refine ze ?_ _)); refine zn (cs := #[.bool false, .int .i64 0, .int .i64 0, .int .i64 0, .int .i64 0, .int .i64 0]) ?_ 0 _ rfl; (with_reducible repeat (first | refine zf ?_ _ | refine zi ?_ | refine ze ?_ _)); exact zC.out⟩, ⟨by repeat (first | (with_reducible first | exact HB.out | apply zg | apply zd | apply zh | refine zj ?_ zH.out | refine zj ?_ zI.out | refine zj ?_ zS.out) | exact HB.out)⟩⟩
               ·rw [if_neg c93] at H
                have c93b0 : (x9_4 == 64) = false := beq_eq_false_iff_ne.mpr c93
                have c93b1 : (x9_4 != 64) = true := bne_iff_ne.mpr c93
                have H' := Aside0.mk H
                clear H
                go_wp2
                go_meet
                case rel => exact ⟨_, (false), (by first | rfl | (simp; done) | (simp [*]; done)), H', ⟨by have := HJ2.out; have := HJ9.out; have := HJ53.out; have := HK4.out; first | omega | exact Nat.le_refl _⟩, ⟨by (with_reducible repeat (first | apply Kd.R_alloc | apply Kd.R_drewN | apply Kd.R_drew)); exact Kd.R_mono (Kd.R_far (p := ⟨zB, 5, none⟩) (Kd.R_far (p := ⟨zB, 4, none⟩) (Kd.R_far (p := ⟨zB, 3, none⟩) (Kd.R_far (p := ⟨zB, 2, none⟩) (Kd.R_far (p := ⟨zB, 1, none⟩) (Kd.R_far (p := ⟨zB, 0, none⟩) (Kd.R_types zK.out zC.out (by decide)) (fun _ hk => hk.2) (.bool t286)) (fun _ hk => hk.2) (.int .i64 t287)) (fun _ hk => hk.2) (.int .i64 t288)) (fun _ hk => hk.2) (.int .i64 t289)) (fun _ hk => hk.2) (.int .i64 t290)) (fun _ hk => hk.2) (.int .i64 t291)) (fun _ hk => hk.1)⟩, ⟨by (with_reducible repeat (first | apply Kd.R_alloc | apply Kd.R_drewN | apply Kd.R_drew)); exact Kd.R_mono (Kd.R_far (p := ⟨zB, 5, none⟩) (Kd.R_far (p := ⟨zB, 4, none⟩) (Kd.R_far (p := ⟨zB, 3, none⟩) (Kd.R_far (p := ⟨zB, 2, none⟩) (Kd.R_far (p := ⟨zB, 1, none⟩) (Kd.R_far (p := ⟨zB, 0, none⟩) (Kd.R_types zL.out zC.out (by decide)) (fun _ hk => hk.2) (.bool t286)) (fun _ hk => hk.2) (.int .i64 t287)) (fun _ hk => hk.2) (.int .i64 t288)) (fun _ hk => hk.2) (.int .i64 t289)) (fun _ hk => hk.2) (.int .i64 t290)) (fun _ hk => hk.2) (.int .i64 t291)) (fun _ hk => hk.1)⟩, ⟨by (with_reducible repeat (first | refine zf ?_ _ | refine zi ?_ | refine ze ?_ _)); refine zm ?_ zD.out _; (with_reducible repeat (first | refine zf ?_ _ | refine zi ?_ | refine ze ?_ _)); refine zm ?_ zD.out _; (with_reducible repeat (first | refine zf ?_ _ | refine zi ?_ | refine ze ?_ _)); refine zm ?_ zD.out _; (with_reducible repeat (first | refine zf ?_ _ | refine zi ?_ | refine ze ?_ _)); refine zm ?_ zD.out _; (with_reducible repeat (first | refine zf ?_ _ | refine zi ?_ | refine ze ?_ _)); refine zm ?_ zD.out _; (with_reducible repeat (first | refine zf ?_ _ | refine zi ?_ | refine ze ?_ _)); refine zm ?_ zD.out _; (with_reducible repeat (first | refine zf ?_ _ | refine zi ?_ | refine ze ?_ _)); exact zz.out⟩, ⟨by (with_reducible repeat (first | refine zf ?_ _ | refine zi ?_ | refine ze ?_ _)); refine zm ?_ zE.out _; (with_reducible repeat (first | refine zf ?_ _ | refine zi ?_ | refine ze ?_ _)); refine zm ?_ zE.out _; (with_reducible repeat (first | refine zf ?_ _ | refine zi ?_ | refine ze ?_ _)); refine zm ?_ zE.out _; (with_reducible repeat (first | refine zf ?_ _ | refine zi ?_ | refine ze ?_ _)); refine zm ?_ zE.out _; (with_reducible repeat (first | refine zf ?_ _ | refine zi ?_ | refine ze ?_ _)); refine zm ?_ zE.out _; (with_reducible repeat (first | refine zf ?_ _ | refine zi ?_ | refine ze ?_ _)); refine zm ?_ zE.out _; (with_reducible repeat (first | refine zf ?_ _ | refine zi ?_ | refine ze ?_ _)); exact zA.out⟩, ⟨by (with_reducible repeat (first | refine zf ?_ _ | refine zi ?_ | refine ze ?_ _)); refine zn (cs := #[.bool t286, .int .i64 t287, .int .i64 t288, .int .i64 t289, .int .i64 t290, .int .i64 0]) ?_ 5 _ rfl; (with_reducible repeat (first | refine zf ?_ _ | refine zi ?_ | refine ze ?_ _)); refine zn (cs := #[.bool t286, .int .i64 t287, .int .i64 t288, .int .i64 t289, .int .i64 0, .int .i64 0]) ?_ 4 _ rfl; (with_reducible repeat (first | refine zf ?_ _ | refine zi ?_ | refine ze ?_ _)); refine zn (cs := #[.bool t286, .int .i64 t287, .int .i64 t288, .int .i64 0, .int .i64 0, .int .i64 0]) ?_ 3 _ rfl; (with_reducible repeat (first | refine zf ?_ _ | refine zi ?_ | refine ze ?_ _)); refine zn (cs := #[.bool t286, .int .i64 t287, .int .i64 0, .int .i64 0, .int .i64 0, .int .i64 0]) ?_ 2 _ rfl; (with_reducible repeat (first | refine zf ?_ _ | refine zi ?_ | refine ze ?_ _)); refine zn (cs := #[.bool t286, .int .i64 0, .int .i64 0, .int .i64 0, .int .i64 0, .int .i64 0]) ?_ 1 _ rfl; (with_reducible repeat (first | refine zf ?_ _ | refine zi ?_ | refine ze ?_ _)); refine zn (cs := #[.bool false, .int .i64 0, .int .i64 0, .int .i64 0, .int .i64 0, .int .i64 0]) ?_ 0 _ rfl; (with_reducible repeat (first | refine zf ?_ _ | refine zi ?_ | refine ze ?_ _)); exact zC.out⟩, ⟨by repeat (first | (with_reducible first | exact HB.out | apply zg | apply zd | apply zh | refine zj ?_ zH.out | refine zj ?_ zI.out | refine zj ?_ zS.out) | exact HB.out)⟩⟩
             case rest =>
              clear HC62
              try clear c1
              try clear c2
              try clear p2
              try clear c3
              try clear c4
              try clear c4b0
              try clear c4b1
              try clear c5
              try clear c6
              try clear c7
              try clear c8
              try clear c9
              try clear c10
              try clear c16
              try clear c23
              try clear c23b0
              try clear c23b1
              try clear c23b2
              try clear c24
              try clear c25
              try clear c26
              try clear c27
              try clear c29
              try clear c36
              try clear c38
              try clear c38b0
              try clear c38b1
              try clear c38b2
              try clear c41
              try clear c50
              try clear c55
              try clear c55b0
              try clear c55b1
              try clear c59
              try clear c60
              try clear c60b0
              try clear c67
              try clear c68
              try clear c70
              try clear c70b0
              try clear c70b1
              try clear c71
              try clear c72
              try clear c72b0
              try clear c73
              try clear c74
              try clear c76
              try clear c78
              try clear c78b0
              try clear c78b1
              try clear c79
              try clear c80
              try clear c82
              try clear c85
              try clear c86
              try clear c88
              try clear c90
              try clear c91
              try clear c93
              try clear c93b0
              try clear c93b1
              try clear c94
              try clear c95
              try clear c96
              try clear c98
              try clear c100
              try clear c101
              try clear zRc
              try clear zSc
              try clear zTc
              try clear zUc
              try clear zVc
              try clear zWc
              try clear zV
              try clear zW
              try clear zX
              try clear zY
              try clear zZ
              try clear zfb
              try clear zgb
              try clear zhb
              try clear zib
              try clear zjb
              try clear zpb
              try clear zqb
              try clear zrb
              try clear zsb
              try clear ztb
              try clear zzb
              try clear zAb
              try clear zBb
              try clear zCb
              try clear zDb
              try clear zJb
              try clear zKb
              try clear zLb
              try clear zMb
              try clear zNb
              try clear zTb
              try clear zUb
              try clear zVb
              try clear zWb
              try clear zXb
              try clear zdc
              try clear zec
              try clear zfc
              try clear zgc
              try clear zhc
              try clear znc
              try clear zoc
              try clear zpc
              try clear zqc
              try clear zrc
              try clear zxc
              try clear zyc
              try clear zzc
              try clear zAc
              try clear zBc
              try clear zHc
              try clear zIc
              try clear zJc
              try clear zKc
              try clear zLc
              try clear zdd
              try clear zed
              try clear zfd
              try clear zgd
              try clear zhd
              try clear zid
              try clear zpd
              try clear zqd
              try clear zrd
              try clear zsd
              try clear ztd
              try clear zud
              try clear zBd
              try clear zCd
              try clear zDd
              try clear zEd
              try clear zFd
              try clear zLd
              try clear zMd
              try clear zNd
              try clear zOd
              try clear zPd
              try clear zQd
              try clear zXd
              try clear zYd
              try clear zZd
              try clear zae
              try clear zbe
              try clear zhe
              try clear zie
              try clear zje
              try clear zke
              try clear zle
              try clear zre
              try clear zse
              try clear zte
              try clear zue
              try clear zve
              try clear zwe
              try clear zDe
              try clear zEe
              try clear zFe
              try clear zGe
              try clear zHe
              try clear zNe
              try clear zOe
              try clear zPe
              try clear zQe
              try clear zRe
              try clear zSe
              try clear zZe
              try clear zaf
              try clear zbf
              try clear zcf
              try clear zdf
              try clear zef
              try clear zlf
              try clear zmf
              try clear znf
              try clear zof
              try clear zpf
              try clear zXc
              try clear zYc
              try clear zZc
              try clear zad
              try clear zbd
              try clear zcd
              try clear zab
              try clear zbb
              try clear zcb
              try clear zdb
              try clear zeb
              try clear zkb
              try clear zlb
              try clear zmb
              try clear znb
              try clear zob
              try clear zub
              try clear zvb
              try clear zwb
              try clear zxb
              try clear zyb
              try clear zEb
              try clear zFb
              try clear zGb
              try clear zHb
              try clear zIb
              try clear zOb
              try clear zPb
              try clear zQb
              try clear zRb
              try clear zSb
              try clear zYb
              try clear zZb
              try clear zac
              try clear zbc
              try clear zcc
              try clear zic
              try clear zjc
              try clear zkc
              try clear zlc
              try clear zmc
              try clear zsc
              try clear ztc
              try clear zuc
              try clear zvc
              try clear zwc
              try clear zCc
              try clear zDc
              try clear zEc
              try clear zFc
              try clear zGc
              try clear zMc
              try clear zNc
              try clear zOc
              try clear zPc
              try clear zQc
              try clear zjd
              try clear zkd
              try clear zld
              try clear zmd
              try clear znd
              try clear zod
              try clear zvd
              try clear zwd
              try clear zxd
              try clear zyd
              try clear zzd
              try clear zAd
              try clear zGd
              try clear zHd
              try clear zId
              try clear zJd
              try clear zKd
              try clear zRd
              try clear zSd
              try clear zTd
              try clear zUd
              try clear zVd
              try clear zWd
              try clear zce
              try clear zde
              try clear zee
              try clear zfe
              try clear zge
              try clear zme
              try clear zne
              try clear zoe
              try clear zpe
              try clear zqe
              try clear zxe
              try clear zye
              try clear zze
              try clear zAe
              try clear zBe
              try clear zCe
              try clear zIe
              try clear zJe
              try clear zKe
              try clear zLe
              try clear zMe
              try clear zTe
              try clear zUe
              try clear zVe
              try clear zWe
              try clear zXe
              try clear zYe
              try clear zff
              try clear zgf
              try clear zhf
              try clear zif
              try clear zjf
              try clear zkf
              try clear zqf
              try clear zrf
              try clear zsf
              try clear ztf
              try clear zuf
              try clear p2
              obtain ⟨kq, x103_61, rfl, HA, HJ61, zK, zL, zz, zA, zC, HB⟩ := hcut
              cases kq with
              | zero => exact absurd HA.out (by simp [laws_FnTornSuper.j4])
              | succ kj61 =>
               have H := HA.out
               clear HA
               simp only [laws_FnTornSuper.j4] at H
               by_cases c103 : x103_61 = true
               ·subst c103
                have H1 : (some false) = some r := by rw [if_pos rfl] at H; exact H
                clear H
                have H := H1
                clear H1
                obtain rfl := Option.some.inj H
                go_wp2
                go_ret
                exact ⟨by first | rfl | (simp [errW_none, errW_some] <;> rfl) | (simp [*, errW_none, errW_some] <;> rfl), by repeat (first | (with_reducible first | exact HB.out | apply zg | apply zd | apply zh | refine zj ?_ zH.out | refine zj ?_ zI.out | refine zj ?_ zS.out) | exact HB.out)⟩
               ·replace c103 := Bool.eq_false_iff.mpr c103
                subst c103
                have H1 : (if t256 = t262 then (laws_FnTornSuper.l0 kj61 t268 t271 (wrap64 (x9_4 + 1)) t256 t257 t258 t259 t260 t262 t263 t264 t265 t266) else (if t286 = true then (if (!(t287 == t256) || (!(t288 == t257) || (!(t289 == t258) || (!(t290 == t259) || (!(t291 == t260)))))) = true then (if (!(t287 == t262) || (!(t288 == t263) || (!(t289 == t264) || (!(t290 == t265) || (!(t291 == t266)))))) = true then (some false) else (laws_FnTornSuper.l0 kj61 t268 t271 (wrap64 (x9_4 + 1)) t256 t257 t258 t259 t260 t262 t263 t264 t265 t266)) else (laws_FnTornSuper.l0 kj61 t268 t271 (wrap64 (x9_4 + 1)) t256 t257 t258 t259 t260 t262 t263 t264 t265 t266)) else (laws_FnTornSuper.l0 kj61 t268 t271 (wrap64 (x9_4 + 1)) t256 t257 t258 t259 t260 t262 t263 t264 t265 t266))) = some r := by rw [if_neg (show ¬ (false = true) by decide)] at H; exact H
                clear H
                have H := H1
                clear H1
                by_cases c104 : t256 = t262
                ·rw [if_pos c104] at H
                 have c104b0 : (t256 == t262) = true := beq_iff_eq.mpr c104
                 have c104b1 : (t256 != t262) = false := bne_eq_false_iff_eq.mpr c104
                 clear c104
                 have H' := Aside0.mk H
                 clear H
                 have zti := zJ.out
                 have zui := zM.out
                 have zvi := zD.out
                 have zwi := zO.out
                 have zxf : wc.cell? ⟨zF, 0, none⟩ = some (.int .i64 t256) := (zc zz.out 0).trans rfl
                 have zyf : wc.cell? ⟨zF, 1, none⟩ = some (.int .i64 t257) := (zc zz.out 1).trans rfl
                 have zzf : wc.cell? ⟨zF, 2, none⟩ = some (.int .i64 t258) := (zc zz.out 2).trans rfl
                 have zAf : wc.cell? ⟨zF, 3, none⟩ = some (.int .i64 t259) := (zc zz.out 3).trans rfl
                 have zBf : wc.cell? ⟨zF, 4, none⟩ = some (.int .i64 t260) := (zc zz.out 4).trans rfl
                 have zCf := zb zz.out 0
                 have zDf := zb zz.out 1
                 have zEf := zb zz.out 2
                 have zFf := zb zz.out 3
                 have zGf := zb zz.out 4
                 have zxi := zE.out
                 have zyi := zP.out
                 have zHf : wc.cell? ⟨zG, 0, none⟩ = some (.int .i64 t262) := (zc zA.out 0).trans rfl
                 have zIf : wc.cell? ⟨zG, 1, none⟩ = some (.int .i64 t263) := (zc zA.out 1).trans rfl
                 have zJf : wc.cell? ⟨zG, 2, none⟩ = some (.int .i64 t264) := (zc zA.out 2).trans rfl
                 have zKf : wc.cell? ⟨zG, 3, none⟩ = some (.int .i64 t265) := (zc zA.out 3).trans rfl
                 have zLf : wc.cell? ⟨zG, 4, none⟩ = some (.int .i64 t266) := (zc zA.out 4).trans rfl
                 have zMf := zb zA.out 0
                 have zNf := zb zA.out 1
                 have zOf := zb zA.out 2
                 have zPf := zb zA.out 3
                 have zQf := zb zA.out 4
                 go_wp2
                 go_roundg kj61
                 case measure => have := HJ2.out; have := HJ9.out; have := HJ53.out; have := HK4.out; have := HJ61.out; omega
                 case rel => exact ⟨(wrap64 (x9_4 + 1)), (by first | rfl | (simp; done) | (simp [*]; done)), H', ⟨by have := HJ2.out; have := HJ9.out; have := HJ53.out; have := HK4.out; have := HJ61.out; omega⟩, ⟨by (with_reducible repeat (first | apply Kd.R_alloc | apply Kd.R_drewN | apply Kd.R_drew)); exact zK.out⟩, ⟨by (with_reducible repeat (first | apply Kd.R_alloc | apply Kd.R_drewN | apply Kd.R_drew)); exact zL.out⟩, ⟨by (with_reducible repeat (first | refine zf ?_ _ | refine zi ?_ | refine ze ?_ _)); exact zz.out⟩, ⟨by (with_reducible repeat (first | refine zf ?_ _ | refine zi ?_ | refine ze ?_ _)); exact zA.out⟩, ⟨by repeat (first | (with_reducible first | exact HB.out | apply zg | apply zd | apply zh | refine zj ?_ zH.out | refine zj ?_ zI.out | refine zj ?_ zS.out) | exact HB.out)⟩⟩
                ·rw [if_neg c104] at H
                 have c104b0 : (t256 == t262) = false := beq_eq_false_iff_ne.mpr c104
                 have c104b1 : (t256 != t262) = true := bne_iff_ne.mpr c104
                 by_cases c110 : t286 = true
                 ·subst c110
                  have H1 : (if (!(t287 == t256) || (!(t288 == t257) || (!(t289 == t258) || (!(t290 == t259) || (!(t291 == t260)))))) = true then (if (!(t287 == t262) || (!(t288 == t263) || (!(t289 == t264) || (!(t290 == t265) || (!(t291 == t266)))))) = true then (some false) else (laws_FnTornSuper.l0 kj61 t268 t271 (wrap64 (x9_4 + 1)) t256 t257 t258 t259 t260 t262 t263 t264 t265 t266)) else (laws_FnTornSuper.l0 kj61 t268 t271 (wrap64 (x9_4 + 1)) t256 t257 t258 t259 t260 t262 t263 t264 t265 t266)) = some r := by rw [if_pos rfl] at H; exact H
                  clear H
                  have H := H1
                  clear H1
                  by_cases c111 : (!(t287 == t256) || (!(t288 == t257) || (!(t289 == t258) || (!(t290 == t259) || (!(t291 == t260)))))) = true
                  ·rw [if_pos c111] at H
                   have c111b0 : (!(t287 == t256) || (!(t288 == t257) || (!(t289 == t258) || (!(t290 == t259) || (!(t291 == t260)))))) = true := c111
                   clear c111
                   by_cases c112 : (!(t287 == t262) || (!(t288 == t263) || (!(t289 == t264) || (!(t290 == t265) || (!(t291 == t266)))))) = true
                   ·rw [if_pos c112] at H
                    have c112b0 : (!(t287 == t262) || (!(t288 == t263) || (!(t289 == t264) || (!(t290 == t265) || (!(t291 == t266)))))) = true := c112
                    clear c112
                    obtain rfl := Option.some.inj H
                    have zzi := zJ.out
                    have zAi := zM.out
                    have zBi := zD.out
                    have zCi := zO.out
                    have zRf : wc.cell? ⟨zF, 0, none⟩ = some (.int .i64 t256) := (zc zz.out 0).trans rfl
                    have zSf : wc.cell? ⟨zF, 1, none⟩ = some (.int .i64 t257) := (zc zz.out 1).trans rfl
                    have zTf : wc.cell? ⟨zF, 2, none⟩ = some (.int .i64 t258) := (zc zz.out 2).trans rfl
                    have zUf : wc.cell? ⟨zF, 3, none⟩ = some (.int .i64 t259) := (zc zz.out 3).trans rfl
                    have zVf : wc.cell? ⟨zF, 4, none⟩ = some (.int .i64 t260) := (zc zz.out 4).trans rfl
                    have zWf := zb zz.out 0
                    have zXf := zb zz.out 1
                    have zYf := zb zz.out 2
                    have zZf := zb zz.out 3
                    have zag := zb zz.out 4
                    have zDi := zE.out
                    have zEi := zP.out
                    have zbg : wc.cell? ⟨zG, 0, none⟩ = some (.int .i64 t262) := (zc zA.out 0).trans rfl
                    have zcg : wc.cell? ⟨zG, 1, none⟩ = some (.int .i64 t263) := (zc zA.out 1).trans rfl
                    have zdg : wc.cell? ⟨zG, 2, none⟩ = some (.int .i64 t264) := (zc zA.out 2).trans rfl
                    have zeg : wc.cell? ⟨zG, 3, none⟩ = some (.int .i64 t265) := (zc zA.out 3).trans rfl
                    have zfg : wc.cell? ⟨zG, 4, none⟩ = some (.int .i64 t266) := (zc zA.out 4).trans rfl
                    have zgg := zb zA.out 0
                    have zhg := zb zA.out 1
                    have zig := zb zA.out 2
                    have zjg := zb zA.out 3
                    have zkg := zb zA.out 4
                    have zlg : wc.cell? ⟨zB, 0, none⟩ = some (.bool true) := (zc zC.out 0).trans rfl
                    have zmg : wc.cell? ⟨zB, 1, none⟩ = some (.int .i64 t287) := (zc zC.out 1).trans rfl
                    have zng : wc.cell? ⟨zB, 2, none⟩ = some (.int .i64 t288) := (zc zC.out 2).trans rfl
                    have zog : wc.cell? ⟨zB, 3, none⟩ = some (.int .i64 t289) := (zc zC.out 3).trans rfl
                    have zpg : wc.cell? ⟨zB, 4, none⟩ = some (.int .i64 t290) := (zc zC.out 4).trans rfl
                    have zqg : wc.cell? ⟨zB, 5, none⟩ = some (.int .i64 t291) := (zc zC.out 5).trans rfl
                    have zrg := zb zC.out 0
                    have zsg := zb zC.out 1
                    have ztg := zb zC.out 2
                    have zug := zb zC.out 3
                    have zvg := zb zC.out 4
                    have zwg := zb zC.out 5
                    go_wp2
                    go_ret
                    exact ⟨by first | rfl | (simp [errW_none, errW_some] <;> rfl) | (simp [*, errW_none, errW_some] <;> rfl), by repeat (first | (with_reducible first | exact HB.out | apply zg | apply zd | apply zh | refine zj ?_ zH.out | refine zj ?_ zI.out | refine zj ?_ zS.out) | exact HB.out)⟩
                   ·rw [if_neg c112] at H
                    have c112b0 : (!(t287 == t262) || (!(t288 == t263) || (!(t289 == t264) || (!(t290 == t265) || (!(t291 == t266)))))) = false := by simpa using c112
                    clear c112
                    have H' := Aside0.mk H
                    clear H
                    have zFi := zJ.out
                    have zGi := zM.out
                    have zHi := zD.out
                    have zIi := zO.out
                    have zxg : wc.cell? ⟨zF, 0, none⟩ = some (.int .i64 t256) := (zc zz.out 0).trans rfl
                    have zyg : wc.cell? ⟨zF, 1, none⟩ = some (.int .i64 t257) := (zc zz.out 1).trans rfl
                    have zzg : wc.cell? ⟨zF, 2, none⟩ = some (.int .i64 t258) := (zc zz.out 2).trans rfl
                    have zAg : wc.cell? ⟨zF, 3, none⟩ = some (.int .i64 t259) := (zc zz.out 3).trans rfl
                    have zBg : wc.cell? ⟨zF, 4, none⟩ = some (.int .i64 t260) := (zc zz.out 4).trans rfl
                    have zCg := zb zz.out 0
                    have zDg := zb zz.out 1
                    have zEg := zb zz.out 2
                    have zFg := zb zz.out 3
                    have zGg := zb zz.out 4
                    have zJi := zE.out
                    have zKi := zP.out
                    have zHg : wc.cell? ⟨zG, 0, none⟩ = some (.int .i64 t262) := (zc zA.out 0).trans rfl
                    have zIg : wc.cell? ⟨zG, 1, none⟩ = some (.int .i64 t263) := (zc zA.out 1).trans rfl
                    have zJg : wc.cell? ⟨zG, 2, none⟩ = some (.int .i64 t264) := (zc zA.out 2).trans rfl
                    have zKg : wc.cell? ⟨zG, 3, none⟩ = some (.int .i64 t265) := (zc zA.out 3).trans rfl
                    have zLg : wc.cell? ⟨zG, 4, none⟩ = some (.int .i64 t266) := (zc zA.out 4).trans rfl
                    have zMg := zb zA.out 0
                    have zNg := zb zA.out 1
                    have zOg := zb zA.out 2
                    have zPg := zb zA.out 3
                    have zQg := zb zA.out 4
                    have zRg : wc.cell? ⟨zB, 0, none⟩ = some (.bool true) := (zc zC.out 0).trans rfl
                    have zSg : wc.cell? ⟨zB, 1, none⟩ = some (.int .i64 t287) := (zc zC.out 1).trans rfl
                    have zTg : wc.cell? ⟨zB, 2, none⟩ = some (.int .i64 t288) := (zc zC.out 2).trans rfl
                    have zUg : wc.cell? ⟨zB, 3, none⟩ = some (.int .i64 t289) := (zc zC.out 3).trans rfl
                    have zVg : wc.cell? ⟨zB, 4, none⟩ = some (.int .i64 t290) := (zc zC.out 4).trans rfl
                    have zWg : wc.cell? ⟨zB, 5, none⟩ = some (.int .i64 t291) := (zc zC.out 5).trans rfl
                    have zXg := zb zC.out 0
                    have zYg := zb zC.out 1
                    have zZg := zb zC.out 2
                    have zah := zb zC.out 3
                    have zbh := zb zC.out 4
                    have zch := zb zC.out 5
                    go_wp2
                    go_roundg kj61
                    case measure => have := HJ2.out; have := HJ9.out; have := HJ53.out; have := HK4.out; have := HJ61.out; omega
                    case rel => exact ⟨(wrap64 (x9_4 + 1)), (by first | rfl | (simp; done) | (simp [*]; done)), H', ⟨by have := HJ2.out; have := HJ9.out; have := HJ53.out; have := HK4.out; have := HJ61.out; omega⟩, ⟨by (with_reducible repeat (first | apply Kd.R_alloc | apply Kd.R_drewN | apply Kd.R_drew)); exact zK.out⟩, ⟨by (with_reducible repeat (first | apply Kd.R_alloc | apply Kd.R_drewN | apply Kd.R_drew)); exact zL.out⟩, ⟨by (with_reducible repeat (first | refine zf ?_ _ | refine zi ?_ | refine ze ?_ _)); exact zz.out⟩, ⟨by (with_reducible repeat (first | refine zf ?_ _ | refine zi ?_ | refine ze ?_ _)); exact zA.out⟩, ⟨by repeat (first | (with_reducible first | exact HB.out | apply zg | apply zd | apply zh | refine zj ?_ zH.out | refine zj ?_ zI.out | refine zj ?_ zS.out) | exact HB.out)⟩⟩
                  ·rw [if_neg c111] at H
                   have c111b0 : (!(t287 == t256) || (!(t288 == t257) || (!(t289 == t258) || (!(t290 == t259) || (!(t291 == t260)))))) = false := by simpa using c111
                   clear c111
                   have H' := Aside0.mk H
                   clear H
                   have zLi := zJ.out
                   have zMi := zM.out
                   have zNi := zD.out
                   have zOi := zO.out
                   have zdh : wc.cell? ⟨zF, 0, none⟩ = some (.int .i64 t256) := (zc zz.out 0).trans rfl
                   have zeh : wc.cell? ⟨zF, 1, none⟩ = some (.int .i64 t257) := (zc zz.out 1).trans rfl
                   have zfh : wc.cell? ⟨zF, 2, none⟩ = some (.int .i64 t258) := (zc zz.out 2).trans rfl
                   have zgh : wc.cell? ⟨zF, 3, none⟩ = some (.int .i64 t259) := (zc zz.out 3).trans rfl
                   have zhh : wc.cell? ⟨zF, 4, none⟩ = some (.int .i64 t260) := (zc zz.out 4).trans rfl
                   have zih := zb zz.out 0
                   have zjh := zb zz.out 1
                   have zkh := zb zz.out 2
                   have zlh := zb zz.out 3
                   have zmh := zb zz.out 4
                   have zPi := zE.out
                   have zQi := zP.out
                   have znh : wc.cell? ⟨zG, 0, none⟩ = some (.int .i64 t262) := (zc zA.out 0).trans rfl
                   have zoh : wc.cell? ⟨zG, 1, none⟩ = some (.int .i64 t263) := (zc zA.out 1).trans rfl
                   have zph : wc.cell? ⟨zG, 2, none⟩ = some (.int .i64 t264) := (zc zA.out 2).trans rfl
                   have zqh : wc.cell? ⟨zG, 3, none⟩ = some (.int .i64 t265) := (zc zA.out 3).trans rfl
                   have zrh : wc.cell? ⟨zG, 4, none⟩ = some (.int .i64 t266) := (zc zA.out 4).trans rfl
                   have zsh := zb zA.out 0
                   have zth := zb zA.out 1
                   have zuh := zb zA.out 2
                   have zvh := zb zA.out 3
                   have zwh := zb zA.out 4
                   have zxh : wc.cell? ⟨zB, 0, none⟩ = some (.bool true) := (zc zC.out 0).trans rfl
                   have zyh : wc.cell? ⟨zB, 1, none⟩ = some (.int .i64 t287) := (zc zC.out 1).trans rfl
                   have zzh : wc.cell? ⟨zB, 2, none⟩ = some (.int .i64 t288) := (zc zC.out 2).trans rfl
                   have zAh : wc.cell? ⟨zB, 3, none⟩ = some (.int .i64 t289) := (zc zC.out 3).trans rfl
                   have zBh : wc.cell? ⟨zB, 4, none⟩ = some (.int .i64 t290) := (zc zC.out 4).trans rfl
                   have zCh : wc.cell? ⟨zB, 5, none⟩ = some (.int .i64 t291) := (zc zC.out 5).trans rfl
                   have zDh := zb zC.out 0
                   have zEh := zb zC.out 1
                   have zFh := zb zC.out 2
                   have zGh := zb zC.out 3
                   have zHh := zb zC.out 4
                   have zIh := zb zC.out 5
                   go_wp2
                   go_roundg kj61
                   case measure => have := HJ2.out; have := HJ9.out; have := HJ53.out; have := HK4.out; have := HJ61.out; omega
                   case rel => exact ⟨(wrap64 (x9_4 + 1)), (by first | rfl | (simp; done) | (simp [*]; done)), H', ⟨by have := HJ2.out; have := HJ9.out; have := HJ53.out; have := HK4.out; have := HJ61.out; omega⟩, ⟨by (with_reducible repeat (first | apply Kd.R_alloc | apply Kd.R_drewN | apply Kd.R_drew)); exact zK.out⟩, ⟨by (with_reducible repeat (first | apply Kd.R_alloc | apply Kd.R_drewN | apply Kd.R_drew)); exact zL.out⟩, ⟨by (with_reducible repeat (first | refine zf ?_ _ | refine zi ?_ | refine ze ?_ _)); exact zz.out⟩, ⟨by (with_reducible repeat (first | refine zf ?_ _ | refine zi ?_ | refine ze ?_ _)); exact zA.out⟩, ⟨by repeat (first | (with_reducible first | exact HB.out | apply zg | apply zd | apply zh | refine zj ?_ zH.out | refine zj ?_ zI.out | refine zj ?_ zS.out) | exact HB.out)⟩⟩
                 ·replace c110 := Bool.eq_false_iff.mpr c110
                  subst c110
                  have H1 : (laws_FnTornSuper.l0 kj61 t268 t271 (wrap64 (x9_4 + 1)) t256 t257 t258 t259 t260 t262 t263 t264 t265 t266) = some r := by rw [if_neg (show ¬ (false = true) by decide)] at H; exact H
                  clear H
                  have H := H1
                  clear H1
                  have H' := Aside0.mk H
                  clear H
                  have zRi := zJ.out
                  have zSi := zM.out
                  have zTi := zD.out
                  have zUi := zO.out
                  have zJh : wc.cell? ⟨zF, 0, none⟩ = some (.int .i64 t256) := (zc zz.out 0).trans rfl
                  have zKh : wc.cell? ⟨zF, 1, none⟩ = some (.int .i64 t257) := (zc zz.out 1).trans rfl
                  have zLh : wc.cell? ⟨zF, 2, none⟩ = some (.int .i64 t258) := (zc zz.out 2).trans rfl
                  have zMh : wc.cell? ⟨zF, 3, none⟩ = some (.int .i64 t259) := (zc zz.out 3).trans rfl
                  have zNh : wc.cell? ⟨zF, 4, none⟩ = some (.int .i64 t260) := (zc zz.out 4).trans rfl
                  have zOh := zb zz.out 0
                  have zPh := zb zz.out 1
                  have zQh := zb zz.out 2
                  have zRh := zb zz.out 3
                  have zSh := zb zz.out 4
                  have zVi := zE.out
                  have zWi := zP.out
                  have zTh : wc.cell? ⟨zG, 0, none⟩ = some (.int .i64 t262) := (zc zA.out 0).trans rfl
                  have zUh : wc.cell? ⟨zG, 1, none⟩ = some (.int .i64 t263) := (zc zA.out 1).trans rfl
                  have zVh : wc.cell? ⟨zG, 2, none⟩ = some (.int .i64 t264) := (zc zA.out 2).trans rfl
                  have zWh : wc.cell? ⟨zG, 3, none⟩ = some (.int .i64 t265) := (zc zA.out 3).trans rfl
                  have zXh : wc.cell? ⟨zG, 4, none⟩ = some (.int .i64 t266) := (zc zA.out 4).trans rfl
                  have zYh := zb zA.out 0
                  have zZh := zb zA.out 1
                  have zai := zb zA.out 2
                  have zbi := zb zA.out 3
                  have zci := zb zA.out 4
                  have zdi : wc.cell? ⟨zB, 0, none⟩ = some (.bool false) := (zc zC.out 0).trans rfl
                  have zei : wc.cell? ⟨zB, 1, none⟩ = some (.int .i64 t287) := (zc zC.out 1).trans rfl
                  have zfi : wc.cell? ⟨zB, 2, none⟩ = some (.int .i64 t288) := (zc zC.out 2).trans rfl
                  have zgi : wc.cell? ⟨zB, 3, none⟩ = some (.int .i64 t289) := (zc zC.out 3).trans rfl
                  have zhi : wc.cell? ⟨zB, 4, none⟩ = some (.int .i64 t290) := (zc zC.out 4).trans rfl
                  have zii : wc.cell? ⟨zB, 5, none⟩ = some (.int .i64 t291) := (zc zC.out 5).trans rfl
                  have zji := zb zC.out 0
                  have zki := zb zC.out 1
                  have zli := zb zC.out 2
                  have zmi := zb zC.out 3
                  have zni := zb zC.out 4
                  have zoi := zb zC.out 5
                  go_wp2
                  go_roundg kj61
                  case measure => have := HJ2.out; have := HJ9.out; have := HJ53.out; have := HK4.out; have := HJ61.out; omega
                  case rel => exact ⟨(wrap64 (x9_4 + 1)), (by first | rfl | (simp; done) | (simp [*]; done)), H', ⟨by have := HJ2.out; have := HJ9.out; have := HJ53.out; have := HK4.out; have := HJ61.out; omega⟩, ⟨by (with_reducible repeat (first | apply Kd.R_alloc | apply Kd.R_drewN | apply Kd.R_drew)); exact zK.out⟩, ⟨by (with_reducible repeat (first | apply Kd.R_alloc | apply Kd.R_drewN | apply Kd.R_drew)); exact zL.out⟩, ⟨by (with_reducible repeat (first | refine zf ?_ _ | refine zi ?_ | refine ze ?_ _)); exact zz.out⟩, ⟨by (with_reducible repeat (first | refine zf ?_ _ | refine zi ?_ | refine ze ?_ _)); exact zA.out⟩, ⟨by repeat (first | (with_reducible first | exact HB.out | apply zg | apply zd | apply zh | refine zj ?_ zH.out | refine zj ?_ zI.out | refine zj ?_ zS.out) | exact HB.out)⟩⟩
            ·rw [if_neg c60] at H
             have c60b0 : decide (x9_4 ≤ 64) = false := decide_eq_false c60
             clear c60
             obtain rfl := Option.some.inj H
             go_wp2
             go_ret
             exact ⟨by first | rfl | (simp [errW_none, errW_some] <;> rfl) | (simp [*, errW_none, errW_some] <;> rfl), by repeat (first | (with_reducible first | exact HB.out | apply zg | apply zd | apply zh | refine zj ?_ zH.out | refine zj ?_ zI.out) | exact HB.out)⟩

/-- THE ONE PURE STATEMENT of laws_FnTornSuper: yours. -/
def laws_FnTornSuper.Pure : Prop := ∀ (l0 : List Int) (l1 : List Int), l0.length ≤ maxLen → l0.length * 1 ≤ 140737488351232 → (∀ x ∈ l0, (Lit.int .u8 x).wf = true) → l1.length ≤ maxLen → l1.length * 1 ≤ 140737488351232 → (∀ x ∈ l1, (Lit.int .u8 x).wf = true) → ∃ k, laws_FnTornSuper.f k l0 l1 = some true
theorem laws_FnTornSuper.walk (P : laws_FnTornSuper.Pure) (a0 : Option Addr) (len0 cap0 : Nat) (z0 : List Int) (a1 : Option Addr) (len1 cap1 : Nat) (z1 : List Int) (w : World) (w0 : (a0 = none ∧ len0 = 0 ∧ cap0 = 0 ∧ z0 = []) ∨ ∃ x, a0 = some x ∧ len0 ≤ cap0 ∧ cap0 ≤ maxLen ∧ z0.length = cap0 ∧ (∀ i, i < z0.length → w.cell? (x.add i) = some (.int .u8 (z0.getD i 0))) ∧ ∀ n ∈ z0, (Lit.int .u8 n).wf = true) (y0 : len0 * 1 ≤ 140737488351232) (w1 : (a1 = none ∧ len1 = 0 ∧ cap1 = 0 ∧ z1 = []) ∨ ∃ x, a1 = some x ∧ len1 ≤ cap1 ∧ cap1 ≤ maxLen ∧ z1.length = cap1 ∧ (∀ i, i < z1.length → w.cell? (x.add i) = some (.int .u8 (z1.getD i 0))) ∧ ∀ n ∈ z1, (Lit.int .u8 n).wf = true) (y1 : len1 * 1 ≤ 140737488351232) :
  Calls Try.prog 6 #[.slice a0 len0 cap0, .slice a1 len1 cap1] w fun e w' => e = .returned (.bool true) ∧ Below w.heap.size w w' := by
 obtain ⟨l0, rfl, hr0, hm0, hw0, hc0⟩ := ReadsInt.ofRowC w0
 obtain ⟨l1, rfl, hr1, hm1, hw1, hc1⟩ := ReadsInt.ofRowC w1
 obtain ⟨k, h⟩ := P l0 l1 hm0 y0 hw0 hm1 y1 hw1
 refine (laws_FnTornSuper.calls k _ _ l0 _ _ l1 true w (Kd.C_of_reads (d := (0 : Int)) (h1 := fun _ => rfl) hr0) hc0 (Kd.C_of_reads (d := (0 : Int)) (h1 := fun _ => rfl) hr1) hc1 h).mono ?_
 rintro e w' ⟨rfl, hd⟩
 exact ⟨rfl, hd⟩

end Go.Proofs.Ytejecjjimggjeaa.GFnTornSuper
