/- Written by give.py, a program of this session, that runs the kit's print and lays contracts proved by hand beside it. -/
import Derived.Test.YtejecjjimggjeaaGFnTornSuperx0
import Derived.Test.YtejecjjimggjeaaGFnTornSuperx2
import Derived.Test.YtejecjjimggjeaaGFnTornSuperx4
namespace Go.Proofs.Ytejecjjimggjeaa.GFnTornSuper
open Go.RowKit Go.Proofs.YtejecjjimggjeaaW.PrintWords Go.Proofs.YtejecjjimggjeaaW.PrintLast Go.Proofs.YtejecjjimggjeaaW.PrintMore
attribute [local go_sem] max2_int min2_int max_two min_two max_three min_three max_four min_four
attribute [local go_sem high] Go.Proofs.YtejecjjimggjeaaH.str_leq Go.Proofs.YtejecjjimggjeaaH.str_geq Go.Proofs.YtejecjjimggjeaaH.str_gtr   -- for this text's walks alone
set_option linter.unusedVariables false
set_option linter.unusedSimpArgs false

mutual
def spec_l4DrawSuper.j0 : Nat → Int → List Int → Int → Int → Int → Int → Int → Int → Int → Int → Option (Int × Int × Int × Int × Int × Int × Int × Int)
 | 0, _, _, _, _, _, _, _, _, _, _ => none
 | k + 1, x4, x1000, x1001, x1002, x1003, x150000, x150001, x150002, x150003, x150004 => if x4 = 1 then ((spec_l1Next.f x1000 x1001 x1002 x1003 2).bind fun bt158 => (spec_l4DrawSuper.j1 k x4 x1000 bt158.2.1 bt158.2.2.1 bt158.2.2.2 (wrap64 (-bt158.1)) x150001 x150002 x150003 x150004)) else (spec_l4DrawSuper.j1 k x4 x1000 x1001 x1002 x1003 x150000 x150001 x150002 x150003 x150004)
def spec_l4DrawSuper.j1 : Nat → Int → List Int → Int → Int → Int → Int → Int → Int → Int → Int → Option (Int × Int × Int × Int × Int × Int × Int × Int)
 | 0, _, _, _, _, _, _, _, _, _, _ => none
 | k + 1, x4, x1000, x1001, x1002, x1003, x150000, x150001, x150002, x150003, x150004 => if x4 = 2 then ((spec_l1Next.f x1000 x1001 x1002 x1003 2).bind fun bt162 => (spec_l4DrawSuper.j2 k x4 x1000 bt162.2.1 bt162.2.2.1 bt162.2.2.2 x150000 (wrap64 (2 - (wrap64 (3 * bt162.1)))) x150002 x150003 x150004)) else (spec_l4DrawSuper.j2 k x4 x1000 x1001 x1002 x1003 x150000 x150001 x150002 x150003 x150004)
def spec_l4DrawSuper.j2 : Nat → Int → List Int → Int → Int → Int → Int → Int → Int → Int → Int → Option (Int × Int × Int × Int × Int × Int × Int × Int)
 | 0, _, _, _, _, _, _, _, _, _, _ => none
 | k + 1, x4, x1000, x1001, x1002, x1003, x150000, x150001, x150002, x150003, x150004 => if x4 = 3 then ((spec_l1Next.f x1000 x1001 x1002 x1003 2).bind fun bt166 => (spec_l4DrawSuper.j3 k x4 x1000 bt166.2.1 bt166.2.2.1 bt166.2.2.2 x150000 x150001 (wrap64 (2147483647 + bt166.1)) x150003 x150004)) else (spec_l4DrawSuper.j3 k x4 x1000 x1001 x1002 x1003 x150000 x150001 x150002 x150003 x150004)
def spec_l4DrawSuper.j3 : Nat → Int → List Int → Int → Int → Int → Int → Int → Int → Int → Int → Option (Int × Int × Int × Int × Int × Int × Int × Int)
 | 0, _, _, _, _, _, _, _, _, _, _ => none
 | k + 1, x4, x1000, x1001, x1002, x1003, x150000, x150001, x150002, x150003, x150004 => if x4 = 4 then ((spec_l1Next.f x1000 x1001 x1002 x1003 2).bind fun bt170 => (if x4 = 5 then ((spec_l1Next.f x1000 bt170.2.1 bt170.2.2.1 bt170.2.2.2 2).bind fun bt174 => (some (x150000, x150001, x150002, wrap64 (4096 + bt170.1), wrap64 (4294967295 + bt174.1), bt174.2.1, bt174.2.2.1, bt174.2.2.2))) else (some (x150000, x150001, x150002, wrap64 (4096 + bt170.1), x150004, bt170.2.1, bt170.2.2.1, bt170.2.2.2)))) else (if x4 = 5 then ((spec_l1Next.f x1000 x1001 x1002 x1003 2).bind fun bt178 => (some (x150000, x150001, x150002, x150003, wrap64 (4294967295 + bt178.1), bt178.2.1, bt178.2.2.1, bt178.2.2.2))) else (some (x150000, x150001, x150002, x150003, x150004, x1001, x1002, x1003)))
end
def spec_l4DrawSuper.f (k : Nat) (s0_0 : List Int) (s0_1 : Int) (s0_2 : Int) (s0_3 : Int) : Option (Int × Int × Int × Int × Int × Int × Int × Int) := (spec_l1Next.f s0_0 s0_1 s0_2 s0_3 600).bind fun bt129 => ((spec_l1Next.f s0_0 bt129.2.1 bt129.2.2.1 bt129.2.2.2 2).bind fun bt133 => ((spec_l1Next.f s0_0 bt133.2.1 bt133.2.2.1 bt133.2.2.2 90).bind fun bt137 => ((spec_l1Next.f s0_0 bt137.2.1 bt137.2.2.1 bt137.2.2.2 4097).bind fun bt141 => ((spec_l1Next.f s0_0 bt141.2.1 bt141.2.2.1 bt141.2.2.2 1000000).bind fun bt145 => ((spec_l1Next.f s0_0 bt145.2.1 bt145.2.2.1 bt145.2.2.2 24).bind fun bt150 => (if bt150.1 = 0 then ((spec_l1Next.f s0_0 bt150.2.1 bt150.2.2.1 bt150.2.2.2 2).bind fun bt154 => (spec_l4DrawSuper.j0 k bt150.1 s0_0 bt154.2.1 bt154.2.2.1 bt154.2.2.2 (wrap64 (9223372036854775807 - bt154.1)) bt133.1 bt137.1 bt141.1 (wrap64 (bt145.1 * 4294)))) else (spec_l4DrawSuper.j0 k bt150.1 s0_0 bt150.2.1 bt150.2.2.1 bt150.2.2.2 (wrap64 (1 + bt129.1)) bt133.1 bt137.1 bt141.1 (wrap64 (bt145.1 * 4294)))))))))
theorem spec_l4DrawSuper.mono_l : ∀ k, (∀ y0 y1 y2 y3 y4 y5 y6 y7 y8 y9, LeO (spec_l4DrawSuper.j0 k y0 y1 y2 y3 y4 y5 y6 y7 y8 y9) (spec_l4DrawSuper.j0 (k + 1) y0 y1 y2 y3 y4 y5 y6 y7 y8 y9)) ∧ (∀ y0 y1 y2 y3 y4 y5 y6 y7 y8 y9, LeO (spec_l4DrawSuper.j1 k y0 y1 y2 y3 y4 y5 y6 y7 y8 y9) (spec_l4DrawSuper.j1 (k + 1) y0 y1 y2 y3 y4 y5 y6 y7 y8 y9)) ∧ (∀ y0 y1 y2 y3 y4 y5 y6 y7 y8 y9, LeO (spec_l4DrawSuper.j2 k y0 y1 y2 y3 y4 y5 y6 y7 y8 y9) (spec_l4DrawSuper.j2 (k + 1) y0 y1 y2 y3 y4 y5 y6 y7 y8 y9)) ∧ (∀ y0 y1 y2 y3 y4 y5 y6 y7 y8 y9, LeO (spec_l4DrawSuper.j3 k y0 y1 y2 y3 y4 y5 y6 y7 y8 y9) (spec_l4DrawSuper.j3 (k + 1) y0 y1 y2 y3 y4 y5 y6 y7 y8 y9))
 | 0 => ⟨fun _ _ _ _ _ _ _ _ _ _ r h => by simp [spec_l4DrawSuper.j0] at h, fun _ _ _ _ _ _ _ _ _ _ r h => by simp [spec_l4DrawSuper.j1] at h, fun _ _ _ _ _ _ _ _ _ _ r h => by simp [spec_l4DrawSuper.j2] at h, fun _ _ _ _ _ _ _ _ _ _ r h => by simp [spec_l4DrawSuper.j3] at h⟩
 | k + 1 => by
  obtain ⟨ih0, ih1, ih2, ih3⟩ := spec_l4DrawSuper.mono_l k
  refine ⟨?_, ?_, ?_, ?_⟩
  ·intro y0 y1 y2 y3 y4 y5 y6 y7 y8 y9
   unfold spec_l4DrawSuper.j0
   repeat' first
   | (with_reducible exact ih0 _ _ _ _ _ _ _ _ _ _)
   | (with_reducible exact ih1 _ _ _ _ _ _ _ _ _ _)
   | (with_reducible exact ih2 _ _ _ _ _ _ _ _ _ _)
   | (with_reducible exact ih3 _ _ _ _ _ _ _ _ _ _)
   | (with_reducible exact LeO.refl _)
   | (with_reducible exact LeO.none _)
   | (with_reducible refine LeO.ite ?_ ?_)
   | (with_reducible refine LeO.bind ?_ (fun _ => ?_))
   | exact ih0 _ _ _ _ _ _ _ _ _ _
   | exact ih1 _ _ _ _ _ _ _ _ _ _
   | exact ih2 _ _ _ _ _ _ _ _ _ _
   | exact ih3 _ _ _ _ _ _ _ _ _ _
   | exact LeO.none _
   | refine LeO.ite ?_ ?_
   | refine LeO.bind ?_ (fun _ => ?_)
  ·intro y0 y1 y2 y3 y4 y5 y6 y7 y8 y9
   unfold spec_l4DrawSuper.j1
   repeat' first
   | (with_reducible exact ih0 _ _ _ _ _ _ _ _ _ _)
   | (with_reducible exact ih1 _ _ _ _ _ _ _ _ _ _)
   | (with_reducible exact ih2 _ _ _ _ _ _ _ _ _ _)
   | (with_reducible exact ih3 _ _ _ _ _ _ _ _ _ _)
   | (with_reducible exact LeO.refl _)
   | (with_reducible exact LeO.none _)
   | (with_reducible refine LeO.ite ?_ ?_)
   | (with_reducible refine LeO.bind ?_ (fun _ => ?_))
   | exact ih0 _ _ _ _ _ _ _ _ _ _
   | exact ih1 _ _ _ _ _ _ _ _ _ _
   | exact ih2 _ _ _ _ _ _ _ _ _ _
   | exact ih3 _ _ _ _ _ _ _ _ _ _
   | exact LeO.none _
   | refine LeO.ite ?_ ?_
   | refine LeO.bind ?_ (fun _ => ?_)
  ·intro y0 y1 y2 y3 y4 y5 y6 y7 y8 y9
   unfold spec_l4DrawSuper.j2
   repeat' first
   | (with_reducible exact ih0 _ _ _ _ _ _ _ _ _ _)
   | (with_reducible exact ih1 _ _ _ _ _ _ _ _ _ _)
   | (with_reducible exact ih2 _ _ _ _ _ _ _ _ _ _)
   | (with_reducible exact ih3 _ _ _ _ _ _ _ _ _ _)
   | (with_reducible exact LeO.refl _)
   | (with_reducible exact LeO.none _)
   | (with_reducible refine LeO.ite ?_ ?_)
   | (with_reducible refine LeO.bind ?_ (fun _ => ?_))
   | exact ih0 _ _ _ _ _ _ _ _ _ _
   | exact ih1 _ _ _ _ _ _ _ _ _ _
   | exact ih2 _ _ _ _ _ _ _ _ _ _
   | exact ih3 _ _ _ _ _ _ _ _ _ _
   | exact LeO.none _
   | refine LeO.ite ?_ ?_
   | refine LeO.bind ?_ (fun _ => ?_)
  ·intro y0 y1 y2 y3 y4 y5 y6 y7 y8 y9
   unfold spec_l4DrawSuper.j3
   repeat' first
   | (with_reducible exact ih0 _ _ _ _ _ _ _ _ _ _)
   | (with_reducible exact ih1 _ _ _ _ _ _ _ _ _ _)
   | (with_reducible exact ih2 _ _ _ _ _ _ _ _ _ _)
   | (with_reducible exact ih3 _ _ _ _ _ _ _ _ _ _)
   | (with_reducible exact LeO.refl _)
   | (with_reducible exact LeO.none _)
   | (with_reducible refine LeO.ite ?_ ?_)
   | (with_reducible refine LeO.bind ?_ (fun _ => ?_))
   | exact ih0 _ _ _ _ _ _ _ _ _ _
   | exact ih1 _ _ _ _ _ _ _ _ _ _
   | exact ih2 _ _ _ _ _ _ _ _ _ _
   | exact ih3 _ _ _ _ _ _ _ _ _ _
   | exact LeO.none _
   | refine LeO.ite ?_ ?_
   | refine LeO.bind ?_ (fun _ => ?_)
theorem spec_l4DrawSuper.mono : ∀ a0 a1 a2 a3 k, LeO (spec_l4DrawSuper.f k a0 a1 a2 a3) (spec_l4DrawSuper.f (k + 1) a0 a1 a2 a3) := by
 intro a0 a1 a2 a3 k
 obtain ⟨ih0, ih1, ih2, ih3⟩ := spec_l4DrawSuper.mono_l k
 unfold spec_l4DrawSuper.f
 repeat' first
   | (with_reducible exact ih0 _ _ _ _ _ _ _ _ _ _)
   | (with_reducible exact ih1 _ _ _ _ _ _ _ _ _ _)
   | (with_reducible exact ih2 _ _ _ _ _ _ _ _ _ _)
   | (with_reducible exact ih3 _ _ _ _ _ _ _ _ _ _)
   | (with_reducible exact LeO.refl _)
   | (with_reducible exact LeO.none _)
   | (with_reducible refine LeO.ite ?_ ?_)
   | (with_reducible refine LeO.bind ?_ (fun _ => ?_))
   | exact ih0 _ _ _ _ _ _ _ _ _ _
   | exact ih1 _ _ _ _ _ _ _ _ _ _
   | exact ih2 _ _ _ _ _ _ _ _ _ _
   | exact ih3 _ _ _ _ _ _ _ _ _ _
   | exact LeO.none _
   | refine LeO.ite ?_ ?_
   | refine LeO.bind ?_ (fun _ => ?_)
set_option maxHeartbeats 8000000 in
set_option maxRecDepth 100000 in
theorem spec_l4DrawSuper.calls (k : Nat) (g : Nat) (s0_0 : List Int) (s0_1 : Int) (s0_2 : Int) (s0_3 : Int) (r1 : Int) (r2 : Int) (r3 : Int) (r4 : Int) (r5 : Int) (r6 : Int) (r7 : Int) (r8 : Int) (w0 w : World) (hI : IsS93 w0 w g s0_0 s0_1 s0_2 s0_3) (hB : BelX g w0 w) (h : spec_l4DrawSuper.f k s0_0 s0_1 s0_2 s0_3 = some (r1, r2, r3, r4, r5, r6, r7, r8)) :
  Calls Try.prog 51 #[.pointer (some ⟨g, 0, none⟩)] w fun e w' => e = .returned (.agg #[.int .i64 r1, .int .i64 r2, .int .i64 r3, .int .i64 r4, .int .i64 r5]) ∧ IsS93 w0 w' g s0_0 r6 r7 r8 ∧ BelX g w0 w' ∧ KeepBut w w' g none := by
 have hu52 := Try.underlying52
 have HI0 := Aside0.mk hI
 have HK := Aside0.mk (KeepBut.refl w g none)
 have HL := Aside0.mk hB.size
 clear hI
 have HW0 := Aside0.mk hB.size
 have HB := Aside0.mk hB
 clear hB
 have H : ((spec_l1Next.f s0_0 s0_1 s0_2 s0_3 600).bind fun bt129 => ((spec_l1Next.f s0_0 bt129.2.1 bt129.2.2.1 bt129.2.2.2 2).bind fun bt133 => ((spec_l1Next.f s0_0 bt133.2.1 bt133.2.2.1 bt133.2.2.2 90).bind fun bt137 => ((spec_l1Next.f s0_0 bt137.2.1 bt137.2.2.1 bt137.2.2.2 4097).bind fun bt141 => ((spec_l1Next.f s0_0 bt141.2.1 bt141.2.2.1 bt141.2.2.2 1000000).bind fun bt145 => ((spec_l1Next.f s0_0 bt145.2.1 bt145.2.2.1 bt145.2.2.2 24).bind fun bt150 => (if bt150.1 = 0 then ((spec_l1Next.f s0_0 bt150.2.1 bt150.2.2.1 bt150.2.2.2 2).bind fun bt154 => (spec_l4DrawSuper.j0 k bt150.1 s0_0 bt154.2.1 bt154.2.2.1 bt154.2.2.2 (wrap64 (9223372036854775807 - bt154.1)) bt133.1 bt137.1 bt141.1 (wrap64 (bt145.1 * 4294)))) else (spec_l4DrawSuper.j0 k bt150.1 s0_0 bt150.2.1 bt150.2.2.1 bt150.2.2.2 (wrap64 (1 + bt129.1)) bt133.1 bt137.1 bt141.1 (wrap64 (bt145.1 * 4294)))))))))) = some (r1, r2, r3, r4, r5, r6, r7, r8) := h
 clear h
 replace H := Option.bind_eq_some_iff.mp H
 obtain ⟨⟨t129, t130, t131, t132⟩, A20, H⟩ := H
 replace H : ((spec_l1Next.f s0_0 t130 t131 t132 2).bind fun bt133 => ((spec_l1Next.f s0_0 bt133.2.1 bt133.2.2.1 bt133.2.2.2 90).bind fun bt137 => ((spec_l1Next.f s0_0 bt137.2.1 bt137.2.2.1 bt137.2.2.2 4097).bind fun bt141 => ((spec_l1Next.f s0_0 bt141.2.1 bt141.2.2.1 bt141.2.2.2 1000000).bind fun bt145 => ((spec_l1Next.f s0_0 bt145.2.1 bt145.2.2.1 bt145.2.2.2 24).bind fun bt150 => (if bt150.1 = 0 then ((spec_l1Next.f s0_0 bt150.2.1 bt150.2.2.1 bt150.2.2.2 2).bind fun bt154 => (spec_l4DrawSuper.j0 k bt150.1 s0_0 bt154.2.1 bt154.2.2.1 bt154.2.2.2 (wrap64 (9223372036854775807 - bt154.1)) bt133.1 bt137.1 bt141.1 (wrap64 (bt145.1 * 4294)))) else (spec_l4DrawSuper.j0 k bt150.1 s0_0 bt150.2.1 bt150.2.2.1 bt150.2.2.2 (wrap64 (1 + t129)) bt133.1 bt137.1 bt141.1 (wrap64 (bt145.1 * 4294))))))))) = some (r1, r2, r3, r4, r5, r6, r7, r8) := H
 have A2 := Aside0.mk A20
 clear A20
 replace H := Option.bind_eq_some_iff.mp H
 obtain ⟨⟨t133, t134, t135, t136⟩, A30, H⟩ := H
 replace H : ((spec_l1Next.f s0_0 t134 t135 t136 90).bind fun bt137 => ((spec_l1Next.f s0_0 bt137.2.1 bt137.2.2.1 bt137.2.2.2 4097).bind fun bt141 => ((spec_l1Next.f s0_0 bt141.2.1 bt141.2.2.1 bt141.2.2.2 1000000).bind fun bt145 => ((spec_l1Next.f s0_0 bt145.2.1 bt145.2.2.1 bt145.2.2.2 24).bind fun bt150 => (if bt150.1 = 0 then ((spec_l1Next.f s0_0 bt150.2.1 bt150.2.2.1 bt150.2.2.2 2).bind fun bt154 => (spec_l4DrawSuper.j0 k bt150.1 s0_0 bt154.2.1 bt154.2.2.1 bt154.2.2.2 (wrap64 (9223372036854775807 - bt154.1)) t133 bt137.1 bt141.1 (wrap64 (bt145.1 * 4294)))) else (spec_l4DrawSuper.j0 k bt150.1 s0_0 bt150.2.1 bt150.2.2.1 bt150.2.2.2 (wrap64 (1 + t129)) t133 bt137.1 bt141.1 (wrap64 (bt145.1 * 4294)))))))) = some (r1, r2, r3, r4, r5, r6, r7, r8) := H
 have A3 := Aside0.mk A30
 clear A30
 replace H := Option.bind_eq_some_iff.mp H
 obtain ⟨⟨t137, t138, t139, t140⟩, A40, H⟩ := H
 replace H : ((spec_l1Next.f s0_0 t138 t139 t140 4097).bind fun bt141 => ((spec_l1Next.f s0_0 bt141.2.1 bt141.2.2.1 bt141.2.2.2 1000000).bind fun bt145 => ((spec_l1Next.f s0_0 bt145.2.1 bt145.2.2.1 bt145.2.2.2 24).bind fun bt150 => (if bt150.1 = 0 then ((spec_l1Next.f s0_0 bt150.2.1 bt150.2.2.1 bt150.2.2.2 2).bind fun bt154 => (spec_l4DrawSuper.j0 k bt150.1 s0_0 bt154.2.1 bt154.2.2.1 bt154.2.2.2 (wrap64 (9223372036854775807 - bt154.1)) t133 t137 bt141.1 (wrap64 (bt145.1 * 4294)))) else (spec_l4DrawSuper.j0 k bt150.1 s0_0 bt150.2.1 bt150.2.2.1 bt150.2.2.2 (wrap64 (1 + t129)) t133 t137 bt141.1 (wrap64 (bt145.1 * 4294))))))) = some (r1, r2, r3, r4, r5, r6, r7, r8) := H
 have A4 := Aside0.mk A40
 clear A40
 replace H := Option.bind_eq_some_iff.mp H
 obtain ⟨⟨t141, t142, t143, t144⟩, A50, H⟩ := H
 replace H : ((spec_l1Next.f s0_0 t142 t143 t144 1000000).bind fun bt145 => ((spec_l1Next.f s0_0 bt145.2.1 bt145.2.2.1 bt145.2.2.2 24).bind fun bt150 => (if bt150.1 = 0 then ((spec_l1Next.f s0_0 bt150.2.1 bt150.2.2.1 bt150.2.2.2 2).bind fun bt154 => (spec_l4DrawSuper.j0 k bt150.1 s0_0 bt154.2.1 bt154.2.2.1 bt154.2.2.2 (wrap64 (9223372036854775807 - bt154.1)) t133 t137 t141 (wrap64 (bt145.1 * 4294)))) else (spec_l4DrawSuper.j0 k bt150.1 s0_0 bt150.2.1 bt150.2.2.1 bt150.2.2.2 (wrap64 (1 + t129)) t133 t137 t141 (wrap64 (bt145.1 * 4294)))))) = some (r1, r2, r3, r4, r5, r6, r7, r8) := H
 have A5 := Aside0.mk A50
 clear A50
 replace H := Option.bind_eq_some_iff.mp H
 obtain ⟨⟨t145, t146, t147, t148⟩, A60, H⟩ := H
 replace H : ((spec_l1Next.f s0_0 t146 t147 t148 24).bind fun bt150 => (if bt150.1 = 0 then ((spec_l1Next.f s0_0 bt150.2.1 bt150.2.2.1 bt150.2.2.2 2).bind fun bt154 => (spec_l4DrawSuper.j0 k bt150.1 s0_0 bt154.2.1 bt154.2.2.1 bt154.2.2.2 (wrap64 (9223372036854775807 - bt154.1)) t133 t137 t141 (wrap64 (t145 * 4294)))) else (spec_l4DrawSuper.j0 k bt150.1 s0_0 bt150.2.1 bt150.2.2.1 bt150.2.2.2 (wrap64 (1 + t129)) t133 t137 t141 (wrap64 (t145 * 4294))))) = some (r1, r2, r3, r4, r5, r6, r7, r8) := H
 have A6 := Aside0.mk A60
 clear A60
 replace H := Option.bind_eq_some_iff.mp H
 obtain ⟨⟨t150, t151, t152, t153⟩, A70, H⟩ := H
 replace H : (if t150 = 0 then ((spec_l1Next.f s0_0 t151 t152 t153 2).bind fun bt154 => (spec_l4DrawSuper.j0 k t150 s0_0 bt154.2.1 bt154.2.2.1 bt154.2.2.2 (wrap64 (9223372036854775807 - bt154.1)) t133 t137 t141 (wrap64 (t145 * 4294)))) else (spec_l4DrawSuper.j0 k t150 s0_0 t151 t152 t153 (wrap64 (1 + t129)) t133 t137 t141 (wrap64 (t145 * 4294)))) = some (r1, r2, r3, r4, r5, r6, r7, r8) := H
 have A7 := Aside0.mk A70
 clear A70
 have HC8 := Aside0.mk H
 clear H
 go_enter Try.func51, Try.ntmps51
 go_upto_if 21 with (first | ((with_reducible refine zu (N := 2) rfl ?_); refine zy ?hg (N := 2) ?hd (cs := #[.int .i64 0, .int .i64 0, .int .i64 0, .int .i64 0, .int .i64 0]) (t := 52) ?hr ?_; (case hd => rfl); (case hg => rfl); (case hr => first | (go_simp; done) | (go_simp; rfl)); intro zC hg w9 hbox hb; have n0_ := Aside0.mk (IsS93.below (by repeat (first | (with_reducible first | exact HI0.out | apply IsS93.alloc | apply IsS93.drewN | apply IsS93.drew | apply IsS93.set_1 | apply IsS93.set_2 | apply IsS93.set_3) | exact HI0.out)) hb); have n1_ := Aside0.mk (KeepBut.trans (by repeat (first | (with_reducible first | exact HK.out | apply KeepBut.set_ | apply zq | apply zw | apply zp) | exact HK.out)) (KeepBut.of_below hb g none) (.inl rfl)); have n2_ := Aside0.mk (belx_step (by repeat (first | (with_reducible first | exact HB.out | apply belx_alloc | apply belx_drewN | apply belx_drew | apply belx_setg) | exact HB.out)) hb); have n3_ := Aside0.mk (hbox); have n4_ := Aside0.mk ((by rw [hg]; exact (keep_size (w := w) (g := g) (row := none) (by repeat (first | (with_reducible first | exact HK.out | apply KeepBut.set_ | apply zq | apply zw | apply zp) | exact HK.out))) : w.heap.size ≤ zC)); have n5_ := Aside0.mk ((Nat.le_trans HW0.out (by rw [hg]; exact (keep_size (w := w) (g := g) (row := none) (by repeat (first | (with_reducible first | exact HK.out | apply KeepBut.set_ | apply zq | apply zw | apply zp) | exact HK.out))) : w.heap.size ≤ zC) : w0.heap.size ≤ zC)); have n6_ := Aside0.mk ((by rw [hg]; exact Nat.ne_of_lt (IsS93.lt (show IsS93 w0 _ g s0_0 s0_1 s0_2 s0_3 from by repeat (first | (with_reducible first | exact HI0.out | apply IsS93.alloc | apply IsS93.drewN | apply IsS93.drew | apply IsS93.set_1 | apply IsS93.set_2 | apply IsS93.set_3) | exact HI0.out))) : g ≠ zC)); have n7_ := Aside0.mk ((by rw [hg]; exact Nat.ne_of_gt (IsS93.lt (show IsS93 w0 _ g s0_0 s0_1 s0_2 s0_3 from by repeat (first | (with_reducible first | exact HI0.out | apply IsS93.alloc | apply IsS93.drewN | apply IsS93.drew | apply IsS93.set_1 | apply IsS93.set_2 | apply IsS93.set_3) | exact HI0.out))) : zC ≠ g)); clear HI0; clear HK; clear HB; have HI0 := n0_; have HK := n1_; have HB := n2_; have zA := n3_; have GW128 := n4_; have zG := n5_; have zD := n6_; have zH := n7_; clear n0_ n1_ n2_ n3_ n4_ n5_ n6_ n7_; clear hb hbox hg) | ((with_reducible refine zo (f := 36) rfl ?_); refine goesL_ (some 6) rfl rfl Try.func36 (by kernel_rfl) rfl #[.pointer (some ⟨g, 0, none⟩), .int .i64 600] rfl (by (try simp only [List.map_toArray, List.map_cons, List.map_nil]); first | done | rfl | (simp only [List.length_drop, List.length_take]; rfl)) ?_; (with_reducible refine (spec_l1Next.calls g s0_0 s0_1 s0_2 s0_3 600 t129 t130 t131 t132 w0 _ ?side1 ?side2 A2.out).mono ?_); (case side1 => repeat (first | (with_reducible first | exact HI0.out | apply IsS93.alloc | apply IsS93.drewN | apply IsS93.drew | apply IsS93.set_1 | apply IsS93.set_2 | apply IsS93.set_3 | refine IsS93.far ?_ zD.out _) | exact HI0.out)); (case side2 => repeat (first | (with_reducible first | exact HB.out | apply belx_alloc | apply belx_drewN | apply belx_drew | apply belx_setg | refine belx_set ?_ zG.out) | exact HB.out)); rintro e w10 ⟨rfl, hi, hb, hk⟩; refine ⟨_, rfl, ?_⟩; have n0_ := Aside0.mk (KeepBut.blk hk (g' := zC) (o := .cells #[.int .i64 0, .int .i64 0, .int .i64 0, .int .i64 0, .int .i64 0] 52 (0, 0)) (by (with_reducible repeat (first | refine zf ?_ _ | refine zi ?_ | refine ze ?_ _)); exact zA.out) zH.out (by simp)); have n1_ := Aside0.mk (KeepBut.trans (by repeat (first | (with_reducible first | exact HK.out | apply KeepBut.set_ | apply zq | apply zw | apply zp | refine zt ?_ GW128.out _) | exact HK.out)) hk (.inl rfl)); have n2_ := Aside0.mk (hb); have n3_ := Aside0.mk (hi); clear zA; clear HK; clear HB; clear HI0; have zA := n0_; have HK := n1_; have HB := n2_; have HI0 := n3_; clear n0_ n1_ n2_ n3_; (try clear hb); (try clear hb2); (try clear hk); (try clear hi)) | ((with_reducible refine zo (f := 36) rfl ?_); refine goesL_ (some 9) rfl rfl Try.func36 (by kernel_rfl) rfl #[.pointer (some ⟨g, 0, none⟩), .int .i64 2] rfl (by (try simp only [List.map_toArray, List.map_cons, List.map_nil]); first | done | rfl | (simp only [List.length_drop, List.length_take]; rfl)) ?_; (with_reducible refine (spec_l1Next.calls g s0_0 t130 t131 t132 2 t133 t134 t135 t136 w0 _ ?side1 ?side2 A3.out).mono ?_); (case side1 => repeat (first | (with_reducible first | exact HI0.out | apply IsS93.alloc | apply IsS93.drewN | apply IsS93.drew | apply IsS93.set_1 | apply IsS93.set_2 | apply IsS93.set_3 | refine IsS93.far ?_ zD.out _) | exact HI0.out)); (case side2 => repeat (first | (with_reducible first | exact HB.out | apply belx_alloc | apply belx_drewN | apply belx_drew | apply belx_setg | refine belx_set ?_ zG.out) | exact HB.out)); rintro e w11 ⟨rfl, hi, hb, hk⟩; refine ⟨_, rfl, ?_⟩; have n0_ := Aside0.mk (KeepBut.blk hk (g' := zC) (o := .cells #[.int .i64 0, .int .i64 0, .int .i64 0, .int .i64 0, .int .i64 0] 52 (0, 0)) (by (with_reducible repeat (first | refine zf ?_ _ | refine zi ?_ | refine ze ?_ _)); exact zA.out) zH.out (by simp)); have n1_ := Aside0.mk (KeepBut.trans (by repeat (first | (with_reducible first | exact HK.out | apply KeepBut.set_ | apply zq | apply zw | apply zp | refine zt ?_ GW128.out _) | exact HK.out)) hk (.inl rfl)); have n2_ := Aside0.mk (hb); have n3_ := Aside0.mk (hi); clear zA; clear HK; clear HB; clear HI0; have zA := n0_; have HK := n1_; have HB := n2_; have HI0 := n3_; clear n0_ n1_ n2_ n3_; (try clear hb); (try clear hb2); (try clear hk); (try clear hi)) | ((with_reducible refine zo (f := 36) rfl ?_); refine goesL_ (some 11) rfl rfl Try.func36 (by kernel_rfl) rfl #[.pointer (some ⟨g, 0, none⟩), .int .i64 90] rfl (by (try simp only [List.map_toArray, List.map_cons, List.map_nil]); first | done | rfl | (simp only [List.length_drop, List.length_take]; rfl)) ?_; (with_reducible refine (spec_l1Next.calls g s0_0 t134 t135 t136 90 t137 t138 t139 t140 w0 _ ?side1 ?side2 A4.out).mono ?_); (case side1 => repeat (first | (with_reducible first | exact HI0.out | apply IsS93.alloc | apply IsS93.drewN | apply IsS93.drew | apply IsS93.set_1 | apply IsS93.set_2 | apply IsS93.set_3 | refine IsS93.far ?_ zD.out _) | exact HI0.out)); (case side2 => repeat (first | (with_reducible first | exact HB.out | apply belx_alloc | apply belx_drewN | apply belx_drew | apply belx_setg | refine belx_set ?_ zG.out) | exact HB.out)); rintro e w12 ⟨rfl, hi, hb, hk⟩; refine ⟨_, rfl, ?_⟩; have n0_ := Aside0.mk (KeepBut.blk hk (g' := zC) (o := .cells #[.int .i64 0, .int .i64 0, .int .i64 0, .int .i64 0, .int .i64 0] 52 (0, 0)) (by (with_reducible repeat (first | refine zf ?_ _ | refine zi ?_ | refine ze ?_ _)); exact zA.out) zH.out (by simp)); have n1_ := Aside0.mk (KeepBut.trans (by repeat (first | (with_reducible first | exact HK.out | apply KeepBut.set_ | apply zq | apply zw | apply zp | refine zt ?_ GW128.out _) | exact HK.out)) hk (.inl rfl)); have n2_ := Aside0.mk (hb); have n3_ := Aside0.mk (hi); clear zA; clear HK; clear HB; clear HI0; have zA := n0_; have HK := n1_; have HB := n2_; have HI0 := n3_; clear n0_ n1_ n2_ n3_; (try clear hb); (try clear hb2); (try clear hk); (try clear hi)) | ((with_reducible refine zo (f := 36) rfl ?_); refine goesL_ (some 13) rfl rfl Try.func36 (by kernel_rfl) rfl #[.pointer (some ⟨g, 0, none⟩), .int .i64 4097] rfl (by (try simp only [List.map_toArray, List.map_cons, List.map_nil]); first | done | rfl | (simp only [List.length_drop, List.length_take]; rfl)) ?_; (with_reducible refine (spec_l1Next.calls g s0_0 t138 t139 t140 4097 t141 t142 t143 t144 w0 _ ?side1 ?side2 A5.out).mono ?_); (case side1 => repeat (first | (with_reducible first | exact HI0.out | apply IsS93.alloc | apply IsS93.drewN | apply IsS93.drew | apply IsS93.set_1 | apply IsS93.set_2 | apply IsS93.set_3 | refine IsS93.far ?_ zD.out _) | exact HI0.out)); (case side2 => repeat (first | (with_reducible first | exact HB.out | apply belx_alloc | apply belx_drewN | apply belx_drew | apply belx_setg | refine belx_set ?_ zG.out) | exact HB.out)); rintro e w13 ⟨rfl, hi, hb, hk⟩; refine ⟨_, rfl, ?_⟩; have n0_ := Aside0.mk (KeepBut.blk hk (g' := zC) (o := .cells #[.int .i64 0, .int .i64 0, .int .i64 0, .int .i64 0, .int .i64 0] 52 (0, 0)) (by (with_reducible repeat (first | refine zf ?_ _ | refine zi ?_ | refine ze ?_ _)); exact zA.out) zH.out (by simp)); have n1_ := Aside0.mk (KeepBut.trans (by repeat (first | (with_reducible first | exact HK.out | apply KeepBut.set_ | apply zq | apply zw | apply zp | refine zt ?_ GW128.out _) | exact HK.out)) hk (.inl rfl)); have n2_ := Aside0.mk (hb); have n3_ := Aside0.mk (hi); clear zA; clear HK; clear HB; clear HI0; have zA := n0_; have HK := n1_; have HB := n2_; have HI0 := n3_; clear n0_ n1_ n2_ n3_; (try clear hb); (try clear hb2); (try clear hk); (try clear hi)) | ((with_reducible refine zo (f := 36) rfl ?_); refine goesL_ (some 15) rfl rfl Try.func36 (by kernel_rfl) rfl #[.pointer (some ⟨g, 0, none⟩), .int .i64 1000000] rfl (by (try simp only [List.map_toArray, List.map_cons, List.map_nil]); first | done | rfl | (simp only [List.length_drop, List.length_take]; rfl)) ?_; (with_reducible refine (spec_l1Next.calls g s0_0 t142 t143 t144 1000000 t145 t146 t147 t148 w0 _ ?side1 ?side2 A6.out).mono ?_); (case side1 => repeat (first | (with_reducible first | exact HI0.out | apply IsS93.alloc | apply IsS93.drewN | apply IsS93.drew | apply IsS93.set_1 | apply IsS93.set_2 | apply IsS93.set_3 | refine IsS93.far ?_ zD.out _) | exact HI0.out)); (case side2 => repeat (first | (with_reducible first | exact HB.out | apply belx_alloc | apply belx_drewN | apply belx_drew | apply belx_setg | refine belx_set ?_ zG.out) | exact HB.out)); rintro e w14 ⟨rfl, hi, hb, hk⟩; refine ⟨_, rfl, ?_⟩; have n0_ := Aside0.mk (KeepBut.blk hk (g' := zC) (o := .cells #[.int .i64 0, .int .i64 0, .int .i64 0, .int .i64 0, .int .i64 0] 52 (0, 0)) (by (with_reducible repeat (first | refine zf ?_ _ | refine zi ?_ | refine ze ?_ _)); exact zA.out) zH.out (by simp)); have n1_ := Aside0.mk (KeepBut.trans (by repeat (first | (with_reducible first | exact HK.out | apply KeepBut.set_ | apply zq | apply zw | apply zp | refine zt ?_ GW128.out _) | exact HK.out)) hk (.inl rfl)); have n2_ := Aside0.mk (hb); have n3_ := Aside0.mk (hi); clear zA; clear HK; clear HB; clear HI0; have zA := n0_; have HK := n1_; have HB := n2_; have HI0 := n3_; clear n0_ n1_ n2_ n3_; (try clear hb); (try clear hb2); (try clear hk); (try clear hi)) | ((with_reducible refine zu (N := 3) rfl ?_); refine zy ?hg (N := 3) ?hd (cs := #[.int .i64 0, .int .i64 0, .int .i64 0, .int .i64 0, .int .i64 0]) (t := 52) ?hr ?_; (case hd => rfl); (case hg => rfl); (case hr => first | (go_simp; done) | (go_simp; rfl)); intro zB hg w15 hbox hb; have n0_ := Aside0.mk (IsS93.below (by repeat (first | (with_reducible first | exact HI0.out | apply IsS93.alloc | apply IsS93.drewN | apply IsS93.drew | apply IsS93.set_1 | apply IsS93.set_2 | apply IsS93.set_3 | refine IsS93.far ?_ zD.out _) | exact HI0.out)) hb); have n1_ := Aside0.mk (zr (g := zC) (o := .cells #[.int .i64 0, .int .i64 0, .int .i64 0, .int .i64 0, .int .i64 0] 52 (0, 0)) (by (with_reducible repeat (first | refine zf ?_ _ | refine zi ?_ | refine ze ?_ _)); exact zA.out) hb); have n2_ := Aside0.mk (KeepBut.trans (by repeat (first | (with_reducible first | exact HK.out | apply KeepBut.set_ | apply zq | apply zw | apply zp | refine zt ?_ GW128.out _) | exact HK.out)) (KeepBut.of_below hb g none) (.inl rfl)); have n3_ := Aside0.mk (belx_step (by repeat (first | (with_reducible first | exact HB.out | apply belx_alloc | apply belx_drewN | apply belx_drew | apply belx_setg | refine belx_set ?_ zG.out) | exact HB.out)) hb); have n4_ := Aside0.mk (hbox); have n5_ := Aside0.mk ((by rw [hg]; exact (keep_size (w := w) (g := g) (row := none) (by repeat (first | (with_reducible first | exact HK.out | apply KeepBut.set_ | apply zq | apply zw | apply zp | refine zt ?_ GW128.out _) | exact HK.out))) : w.heap.size ≤ zB)); have n6_ := Aside0.mk ((Nat.le_trans HW0.out (by rw [hg]; exact (keep_size (w := w) (g := g) (row := none) (by repeat (first | (with_reducible first | exact HK.out | apply KeepBut.set_ | apply zq | apply zw | apply zp | refine zt ?_ GW128.out _) | exact HK.out))) : w.heap.size ≤ zB) : w0.heap.size ≤ zB)); have n7_ := Aside0.mk ((by rw [hg]; exact Nat.ne_of_lt (blk_lt (g := zC) (o := .cells #[.int .i64 0, .int .i64 0, .int .i64 0, .int .i64 0, .int .i64 0] 52 (0, 0)) (by (with_reducible repeat (first | refine zf ?_ _ | refine zi ?_ | refine ze ?_ _)); exact zA.out)) : zC ≠ zB)); have n8_ := Aside0.mk ((by rw [hg]; exact Nat.ne_of_gt (blk_lt (g := zC) (o := .cells #[.int .i64 0, .int .i64 0, .int .i64 0, .int .i64 0, .int .i64 0] 52 (0, 0)) (by (with_reducible repeat (first | refine zf ?_ _ | refine zi ?_ | refine ze ?_ _)); exact zA.out)) : zB ≠ zC)); have n9_ := Aside0.mk ((by rw [hg]; exact Nat.ne_of_lt (IsS93.lt (show IsS93 w0 _ g s0_0 t146 t147 t148 from by repeat (first | (with_reducible first | exact HI0.out | apply IsS93.alloc | apply IsS93.drewN | apply IsS93.drew | apply IsS93.set_1 | apply IsS93.set_2 | apply IsS93.set_3 | refine IsS93.far ?_ zD.out _) | exact HI0.out))) : g ≠ zB)); have n10_ := Aside0.mk ((by rw [hg]; exact Nat.ne_of_gt (IsS93.lt (show IsS93 w0 _ g s0_0 t146 t147 t148 from by repeat (first | (with_reducible first | exact HI0.out | apply IsS93.alloc | apply IsS93.drewN | apply IsS93.drew | apply IsS93.set_1 | apply IsS93.set_2 | apply IsS93.set_3 | refine IsS93.far ?_ zD.out _) | exact HI0.out))) : zB ≠ g)); clear HI0; clear zA; clear HK; clear HB; have HI0 := n0_; have zA := n1_; have HK := n2_; have HB := n3_; have zz := n4_; have GW149 := n5_; have zJ := n6_; have zF := n7_; have zK := n8_; have zE := n9_; have zI := n10_; clear n0_ n1_ n2_ n3_ n4_ n5_ n6_ n7_ n8_ n9_ n10_; clear hb hbox hg; have zvd := zK.out; have zwd := zF.out; have zxd := zI.out; have zyd := zE.out; have zL : w15.cell? ⟨zB, 0, none⟩ = some (.int .i64 0) := (zc zz.out 0).trans rfl; have zM : w15.cell? ⟨zB, 1, none⟩ = some (.int .i64 0) := (zc zz.out 1).trans rfl; have zN : w15.cell? ⟨zB, 2, none⟩ = some (.int .i64 0) := (zc zz.out 2).trans rfl; have zO : w15.cell? ⟨zB, 3, none⟩ = some (.int .i64 0) := (zc zz.out 3).trans rfl; have zP : w15.cell? ⟨zB, 4, none⟩ = some (.int .i64 0) := (zc zz.out 4).trans rfl; have zQ := zb zz.out 0; have zR := zb zz.out 1; have zS := zb zz.out 2; have zT := zb zz.out 3; have zU := zb zz.out 4) | ((with_reducible refine zo (f := 36) rfl ?_); refine goesL_ (some 19) rfl rfl Try.func36 (by kernel_rfl) rfl #[.pointer (some ⟨g, 0, none⟩), .int .i64 24] rfl (by (try simp only [List.map_toArray, List.map_cons, List.map_nil]); first | done | rfl | (simp only [List.length_drop, List.length_take]; rfl)) ?_; (with_reducible refine (spec_l1Next.calls g s0_0 t146 t147 t148 24 t150 t151 t152 t153 w0 _ ?side1 ?side2 A7.out).mono ?_); (case side1 => repeat (first | (with_reducible first | exact HI0.out | apply IsS93.alloc | apply IsS93.drewN | apply IsS93.drew | apply IsS93.set_1 | apply IsS93.set_2 | apply IsS93.set_3 | refine IsS93.far ?_ zD.out _ | refine IsS93.far ?_ zE.out _) | exact HI0.out)); (case side2 => repeat (first | (with_reducible first | exact HB.out | apply belx_alloc | apply belx_drewN | apply belx_drew | apply belx_setg | refine belx_set ?_ zG.out | refine belx_set ?_ zJ.out) | exact HB.out)); rintro e w19 ⟨rfl, hi, hb, hk⟩; refine ⟨_, rfl, ?_⟩; have n0_ := Aside0.mk (KeepBut.blk hk (g' := zC) (o := .cells #[.int .i64 0, .int .i64 0, .int .i64 0, .int .i64 0, .int .i64 0] 52 (0, 0)) (by (with_reducible repeat (first | refine zf ?_ _ | refine zi ?_ | refine ze ?_ _)); refine zm ?_ zF.out _; (with_reducible repeat (first | refine zf ?_ _ | refine zi ?_ | refine ze ?_ _)); refine zm ?_ zF.out _; (with_reducible repeat (first | refine zf ?_ _ | refine zi ?_ | refine ze ?_ _)); refine zm ?_ zF.out _; (with_reducible repeat (first | refine zf ?_ _ | refine zi ?_ | refine ze ?_ _)); refine zm ?_ zF.out _; (with_reducible repeat (first | refine zf ?_ _ | refine zi ?_ | refine ze ?_ _)); refine zm ?_ zF.out _; (with_reducible repeat (first | refine zf ?_ _ | refine zi ?_ | refine ze ?_ _)); exact zA.out) zH.out (by simp)); have n1_ := Aside0.mk (KeepBut.blk hk (g' := zB) (o := .cells #[.int .i64 (wrap64 (1 + t129)), .int .i64 t133, .int .i64 t137, .int .i64 t141, .int .i64 (wrap64 (t145 * 4294))] 52 (0, 0)) (by (with_reducible repeat (first | refine zf ?_ _ | refine zi ?_ | refine ze ?_ _)); refine zn (cs := #[.int .i64 (wrap64 (1 + t129)), .int .i64 t133, .int .i64 t137, .int .i64 t141, .int .i64 0]) ?_ 4 _ rfl; (with_reducible repeat (first | refine zf ?_ _ | refine zi ?_ | refine ze ?_ _)); refine zn (cs := #[.int .i64 (wrap64 (1 + t129)), .int .i64 t133, .int .i64 t137, .int .i64 0, .int .i64 0]) ?_ 3 _ rfl; (with_reducible repeat (first | refine zf ?_ _ | refine zi ?_ | refine ze ?_ _)); refine zn (cs := #[.int .i64 (wrap64 (1 + t129)), .int .i64 t133, .int .i64 0, .int .i64 0, .int .i64 0]) ?_ 2 _ rfl; (with_reducible repeat (first | refine zf ?_ _ | refine zi ?_ | refine ze ?_ _)); refine zn (cs := #[.int .i64 (wrap64 (1 + t129)), .int .i64 0, .int .i64 0, .int .i64 0, .int .i64 0]) ?_ 1 _ rfl; (with_reducible repeat (first | refine zf ?_ _ | refine zi ?_ | refine ze ?_ _)); refine zn (cs := #[.int .i64 0, .int .i64 0, .int .i64 0, .int .i64 0, .int .i64 0]) ?_ 0 _ rfl; (with_reducible repeat (first | refine zf ?_ _ | refine zi ?_ | refine ze ?_ _)); exact zz.out) zI.out (by simp)); have n2_ := Aside0.mk (KeepBut.trans (by repeat (first | (with_reducible first | exact HK.out | apply KeepBut.set_ | apply zq | apply zw | apply zp | refine zt ?_ GW128.out _ | refine zt ?_ GW149.out _) | exact HK.out)) hk (.inl rfl)); have n3_ := Aside0.mk (hb); have n4_ := Aside0.mk (hi); clear zA; clear zz; clear HK; clear HB; clear HI0; have zA := n0_; have zz := n1_; have HK := n2_; have HB := n3_; have HI0 := n4_; clear n0_ n1_ n2_ n3_ n4_; (try clear hb); (try clear hb2); (try clear hk); (try clear hi)))
 (try simp only [Act.put, List.setIfInBounds_toArray, List.set_cons_zero, List.set_cons_succ])
 go_cut [] (fun wc => ∃ (kq : Nat) (x1001_7 : Int) (x1002_7 : Int) (x1003_7 : Int) (x150000_7 : Int), Aside0 (spec_l4DrawSuper.j0 kq t150 s0_0 x1001_7 x1002_7 x1003_7 x150000_7 t133 t137 t141 (wrap64 (t145 * 4294)) = some (r1, r2, r3, r4, r5, r6, r7, r8)) ∧ Aside0 (kq ≤ k) ∧ Aside0 (wc.heap[zC]? = some (.cells #[.int .i64 0, .int .i64 0, .int .i64 0, .int .i64 0, .int .i64 0] 52 (0, 0))) ∧ Aside0 (wc.heap[zB]? = some (.cells #[.int .i64 x150000_7, .int .i64 t133, .int .i64 t137, .int .i64 t141, .int .i64 (wrap64 (t145 * 4294))] 52 (0, 0))) ∧ Aside0 (IsS93 w0 wc g s0_0 x1001_7 x1002_7 x1003_7) ∧ Aside0 (KeepBut w wc g none) ∧ Aside0 (BelX g w0 wc))
 case first =>
  have H := HC8.out
  clear HC8
  by_cases c20 : t150 = 0
  ·rw [if_pos c20] at H
   have c20b0 : (t150 == 0) = true := beq_iff_eq.mpr c20
   have c20b1 : (t150 != 0) = false := bne_eq_false_iff_eq.mpr c20
   clear c20
   (first | rw [c20b0] | (simp only [zv, zx]; rw [c20b0]) | skip)
   replace H := Option.bind_eq_some_iff.mp H
   obtain ⟨⟨t154, t155, t156, t157⟩, A210, H⟩ := H
   replace H : (spec_l4DrawSuper.j0 k t150 s0_0 t155 t156 t157 (wrap64 (9223372036854775807 - t154)) t133 t137 t141 (wrap64 (t145 * 4294))) = some (r1, r2, r3, r4, r5, r6, r7, r8) := H
   have A21 := Aside0.mk A210
   clear A210
   have H' := Aside0.mk H
   clear H
   go_wp2_with (first | ((with_reducible refine zo (f := 36) rfl ?_); refine goesL_ (some 23) rfl rfl Try.func36 (by kernel_rfl) rfl #[.pointer (some ⟨g, 0, none⟩), .int .i64 2] rfl (by (try simp only [List.map_toArray, List.map_cons, List.map_nil]); first | done | rfl | (simp only [List.length_drop, List.length_take]; rfl)) ?_; (with_reducible refine (spec_l1Next.calls g s0_0 t151 t152 t153 2 t154 t155 t156 t157 w0 _ ?side1 ?side2 A21.out).mono ?_); (case side1 => repeat (first | (with_reducible first | exact HI0.out | apply IsS93.alloc | apply IsS93.drewN | apply IsS93.drew | apply IsS93.set_1 | apply IsS93.set_2 | apply IsS93.set_3 | refine IsS93.far ?_ zD.out _ | refine IsS93.far ?_ zE.out _) | exact HI0.out)); (case side2 => repeat (first | (with_reducible first | exact HB.out | apply belx_alloc | apply belx_drewN | apply belx_drew | apply belx_setg | refine belx_set ?_ zG.out | refine belx_set ?_ zJ.out) | exact HB.out)); rintro e w22 ⟨rfl, hi, hb, hk⟩; refine ⟨_, rfl, ?_⟩; have n0_ := Aside0.mk (KeepBut.blk hk (g' := zC) (o := .cells #[.int .i64 0, .int .i64 0, .int .i64 0, .int .i64 0, .int .i64 0] 52 (0, 0)) (by (with_reducible repeat (first | refine zf ?_ _ | refine zi ?_ | refine ze ?_ _)); exact zA.out) zH.out (by simp)); have n1_ := Aside0.mk (KeepBut.blk hk (g' := zB) (o := .cells #[.int .i64 (wrap64 (1 + t129)), .int .i64 t133, .int .i64 t137, .int .i64 t141, .int .i64 (wrap64 (t145 * 4294))] 52 (0, 0)) (by (with_reducible repeat (first | refine zf ?_ _ | refine zi ?_ | refine ze ?_ _)); exact zz.out) zI.out (by simp)); have n2_ := Aside0.mk (KeepBut.trans (by repeat (first | (with_reducible first | exact HK.out | apply KeepBut.set_ | apply zq | apply zw | apply zp | refine zt ?_ GW128.out _ | refine zt ?_ GW149.out _) | exact HK.out)) hk (.inl rfl)); have n3_ := Aside0.mk (hb); have n4_ := Aside0.mk (hi); clear zA; clear zz; clear HK; clear HB; clear HI0; have zA := n0_; have zz := n1_; have HK := n2_; have HB := n3_; have HI0 := n4_; clear n0_ n1_ n2_ n3_ n4_; (try clear hb); (try clear hb2); (try clear hk); (try clear hi); have zzd := zK.out; have zAd := zF.out; have zBd := zI.out; have zCd := zE.out; have zV : w22.cell? ⟨zB, 0, none⟩ = some (.int .i64 (wrap64 (1 + t129))) := (zc zz.out 0).trans rfl; have zW : w22.cell? ⟨zB, 1, none⟩ = some (.int .i64 t133) := (zc zz.out 1).trans rfl; have zX : w22.cell? ⟨zB, 2, none⟩ = some (.int .i64 t137) := (zc zz.out 2).trans rfl; have zY : w22.cell? ⟨zB, 3, none⟩ = some (.int .i64 t141) := (zc zz.out 3).trans rfl; have zZ : w22.cell? ⟨zB, 4, none⟩ = some (.int .i64 (wrap64 (t145 * 4294))) := (zc zz.out 4).trans rfl; have zab := zb zz.out 0; have zbb := zb zz.out 1; have zcb := zb zz.out 2; have zdb := zb zz.out 3; have zeb := zb zz.out 4))
   go_meet
   case rel => exact ⟨_, (t155), (t156), (t157), (wrap64 (9223372036854775807 - t154)), H', ⟨by first | omega | exact Nat.le_refl _⟩, ⟨by (with_reducible repeat (first | refine zf ?_ _ | refine zi ?_ | refine ze ?_ _)); refine zm ?_ zF.out _; (with_reducible repeat (first | refine zf ?_ _ | refine zi ?_ | refine ze ?_ _)); exact zA.out⟩, ⟨by (with_reducible repeat (first | refine zf ?_ _ | refine zi ?_ | refine ze ?_ _)); refine zn (cs := #[.int .i64 (wrap64 (1 + t129)), .int .i64 t133, .int .i64 t137, .int .i64 t141, .int .i64 (wrap64 (t145 * 4294))]) ?_ 0 _ rfl; (with_reducible repeat (first | refine zf ?_ _ | refine zi ?_ | refine ze ?_ _)); exact zz.out⟩, ⟨by repeat (first | (with_reducible first | exact HI0.out | apply IsS93.alloc | apply IsS93.drewN | apply IsS93.drew | apply IsS93.set_1 | apply IsS93.set_2 | apply IsS93.set_3 | refine IsS93.far ?_ zD.out _ | refine IsS93.far ?_ zE.out _) | exact HI0.out)⟩, ⟨by repeat (first | (with_reducible first | exact HK.out | apply KeepBut.set_ | apply zq | apply zw | apply zp | refine zt ?_ GW128.out _ | refine zt ?_ GW149.out _) | exact HK.out)⟩, ⟨by repeat (first | (with_reducible first | exact HB.out | apply belx_alloc | apply belx_drewN | apply belx_drew | apply belx_setg | refine belx_set ?_ zG.out | refine belx_set ?_ zJ.out) | exact HB.out)⟩⟩
  ·rw [if_neg c20] at H
   have c20b0 : (t150 == 0) = false := beq_eq_false_iff_ne.mpr c20
   have c20b1 : (t150 != 0) = true := bne_iff_ne.mpr c20
   (first | rw [c20b0] | (simp only [zv, zx]; rw [c20b0]) | skip)
   have H' := Aside0.mk H
   clear H
   go_wp2
   go_meet
   case rel => exact ⟨_, (t151), (t152), (t153), (wrap64 (1 + t129)), H', ⟨by first | omega | exact Nat.le_refl _⟩, ⟨by (with_reducible repeat (first | refine zf ?_ _ | refine zi ?_ | refine ze ?_ _)); exact zA.out⟩, ⟨by (with_reducible repeat (first | refine zf ?_ _ | refine zi ?_ | refine ze ?_ _)); exact zz.out⟩, ⟨by repeat (first | (with_reducible first | exact HI0.out | apply IsS93.alloc | apply IsS93.drewN | apply IsS93.drew | apply IsS93.set_1 | apply IsS93.set_2 | apply IsS93.set_3 | refine IsS93.far ?_ zD.out _ | refine IsS93.far ?_ zE.out _) | exact HI0.out)⟩, ⟨by repeat (first | (with_reducible first | exact HK.out | apply KeepBut.set_ | apply zq | apply zw | apply zp | refine zt ?_ GW128.out _ | refine zt ?_ GW149.out _) | exact HK.out)⟩, ⟨by repeat (first | (with_reducible first | exact HB.out | apply belx_alloc | apply belx_drewN | apply belx_drew | apply belx_setg | refine belx_set ?_ zG.out | refine belx_set ?_ zJ.out) | exact HB.out)⟩⟩
 case rest =>
  clear HC8
  try clear c1
  try clear c2
  try clear p2
  try clear c3
  try clear c5
  try clear p6
  try clear c16
  try clear c17
  try clear c20
  try clear c20b0
  try clear c20b1
  try clear c23
  try clear c24
  try clear zL
  try clear zM
  try clear zN
  try clear zO
  try clear zP
  try clear zV
  try clear zW
  try clear zX
  try clear zY
  try clear zZ
  try clear zQ
  try clear zR
  try clear zS
  try clear zT
  try clear zU
  try clear zab
  try clear zbb
  try clear zcb
  try clear zdb
  try clear zeb
  obtain ⟨kq, x1001_7, x1002_7, x1003_7, x150000_7, HA, HJ7, zA, zz, HI0, HK, HB⟩ := hcut
  cases kq with
  | zero => exact absurd HA.out (by simp [spec_l4DrawSuper.j0])
  | succ kj7 =>
   have H := HA.out
   clear HA
   simp only [spec_l4DrawSuper.j0] at H
   have HC26 := Aside0.mk H
   clear H
   go_upto_if 27 with (fail)
   go_cut [] (fun wc => ∃ (kq : Nat) (x1001_25 : Int) (x1002_25 : Int) (x1003_25 : Int) (x150000_25 : Int), Aside0 (spec_l4DrawSuper.j1 kq t150 s0_0 x1001_25 x1002_25 x1003_25 x150000_25 t133 t137 t141 (wrap64 (t145 * 4294)) = some (r1, r2, r3, r4, r5, r6, r7, r8)) ∧ Aside0 (kq ≤ kj7) ∧ Aside0 (wc.heap[zC]? = some (.cells #[.int .i64 0, .int .i64 0, .int .i64 0, .int .i64 0, .int .i64 0] 52 (0, 0))) ∧ Aside0 (wc.heap[zB]? = some (.cells #[.int .i64 x150000_25, .int .i64 t133, .int .i64 t137, .int .i64 t141, .int .i64 (wrap64 (t145 * 4294))] 52 (0, 0))) ∧ Aside0 (IsS93 w0 wc g s0_0 x1001_25 x1002_25 x1003_25) ∧ Aside0 (KeepBut w wc g none) ∧ Aside0 (BelX g w0 wc))
   case first =>
    have H := HC26.out
    clear HC26
    by_cases c27 : t150 = 1
    ·rw [if_pos c27] at H
     have c27b0 : (t150 == 1) = true := beq_iff_eq.mpr c27
     have c27b1 : (t150 != 1) = false := bne_eq_false_iff_eq.mpr c27
     clear c27
     (first | rw [c27b0] | (simp only [zv, zx]; rw [c27b0]) | skip)
     replace H := Option.bind_eq_some_iff.mp H
     obtain ⟨⟨t158, t159, t160, t161⟩, A280, H⟩ := H
     replace H : (spec_l4DrawSuper.j1 kj7 t150 s0_0 t159 t160 t161 (wrap64 (-t158)) t133 t137 t141 (wrap64 (t145 * 4294))) = some (r1, r2, r3, r4, r5, r6, r7, r8) := H
     have A28 := Aside0.mk A280
     clear A280
     have H' := Aside0.mk H
     clear H
     go_wp2_with (first | ((with_reducible refine zo (f := 36) rfl ?_); refine goesL_ (some 29) rfl rfl Try.func36 (by kernel_rfl) rfl #[.pointer (some ⟨g, 0, none⟩), .int .i64 2] rfl (by (try simp only [List.map_toArray, List.map_cons, List.map_nil]); first | done | rfl | (simp only [List.length_drop, List.length_take]; rfl)) ?_; (with_reducible refine (spec_l1Next.calls g s0_0 x1001_7 x1002_7 x1003_7 2 t158 t159 t160 t161 w0 _ ?side1 ?side2 A28.out).mono ?_); (case side1 => repeat (first | (with_reducible first | exact HI0.out | apply IsS93.alloc | apply IsS93.drewN | apply IsS93.drew | apply IsS93.set_1 | apply IsS93.set_2 | apply IsS93.set_3 | refine IsS93.far ?_ zD.out _ | refine IsS93.far ?_ zE.out _) | exact HI0.out)); (case side2 => repeat (first | (with_reducible first | exact HB.out | apply belx_alloc | apply belx_drewN | apply belx_drew | apply belx_setg | refine belx_set ?_ zG.out | refine belx_set ?_ zJ.out) | exact HB.out)); rintro e w29 ⟨rfl, hi, hb, hk⟩; refine ⟨_, rfl, ?_⟩; have n0_ := Aside0.mk (KeepBut.blk hk (g' := zC) (o := .cells #[.int .i64 0, .int .i64 0, .int .i64 0, .int .i64 0, .int .i64 0] 52 (0, 0)) (by (with_reducible repeat (first | refine zf ?_ _ | refine zi ?_ | refine ze ?_ _)); exact zA.out) zH.out (by simp)); have n1_ := Aside0.mk (KeepBut.blk hk (g' := zB) (o := .cells #[.int .i64 x150000_7, .int .i64 t133, .int .i64 t137, .int .i64 t141, .int .i64 (wrap64 (t145 * 4294))] 52 (0, 0)) (by (with_reducible repeat (first | refine zf ?_ _ | refine zi ?_ | refine ze ?_ _)); exact zz.out) zI.out (by simp)); have n2_ := Aside0.mk (KeepBut.trans (by repeat (first | (with_reducible first | exact HK.out | apply KeepBut.set_ | apply zq | apply zw | apply zp | refine zt ?_ GW128.out _ | refine zt ?_ GW149.out _) | exact HK.out)) hk (.inl rfl)); have n3_ := Aside0.mk (hb); have n4_ := Aside0.mk (hi); clear zA; clear zz; clear HK; clear HB; clear HI0; have zA := n0_; have zz := n1_; have HK := n2_; have HB := n3_; have HI0 := n4_; clear n0_ n1_ n2_ n3_ n4_; (try clear hb); (try clear hb2); (try clear hk); (try clear hi); have zDd := zK.out; have zEd := zF.out; have zFd := zI.out; have zGd := zE.out; have zfb : w29.cell? ⟨zB, 0, none⟩ = some (.int .i64 x150000_7) := (zc zz.out 0).trans rfl; have zgb : w29.cell? ⟨zB, 1, none⟩ = some (.int .i64 t133) := (zc zz.out 1).trans rfl; have zhb : w29.cell? ⟨zB, 2, none⟩ = some (.int .i64 t137) := (zc zz.out 2).trans rfl; have zib : w29.cell? ⟨zB, 3, none⟩ = some (.int .i64 t141) := (zc zz.out 3).trans rfl; have zjb : w29.cell? ⟨zB, 4, none⟩ = some (.int .i64 (wrap64 (t145 * 4294))) := (zc zz.out 4).trans rfl; have zkb := zb zz.out 0; have zlb := zb zz.out 1; have zmb := zb zz.out 2; have znb := zb zz.out 3; have zob := zb zz.out 4))
     go_meet
     case rel => exact ⟨_, (t159), (t160), (t161), (wrap64 (-t158)), H', ⟨by have := HJ7.out; first | omega | exact Nat.le_refl _⟩, ⟨by (with_reducible repeat (first | refine zf ?_ _ | refine zi ?_ | refine ze ?_ _)); refine zm ?_ zF.out _; (with_reducible repeat (first | refine zf ?_ _ | refine zi ?_ | refine ze ?_ _)); exact zA.out⟩, ⟨by (with_reducible repeat (first | refine zf ?_ _ | refine zi ?_ | refine ze ?_ _)); refine zn (cs := #[.int .i64 x150000_7, .int .i64 t133, .int .i64 t137, .int .i64 t141, .int .i64 (wrap64 (t145 * 4294))]) ?_ 0 _ rfl; (with_reducible repeat (first | refine zf ?_ _ | refine zi ?_ | refine ze ?_ _)); exact zz.out⟩, ⟨by repeat (first | (with_reducible first | exact HI0.out | apply IsS93.alloc | apply IsS93.drewN | apply IsS93.drew | apply IsS93.set_1 | apply IsS93.set_2 | apply IsS93.set_3 | refine IsS93.far ?_ zD.out _ | refine IsS93.far ?_ zE.out _) | exact HI0.out)⟩, ⟨by repeat (first | (with_reducible first | exact HK.out | apply KeepBut.set_ | apply zq | apply zw | apply zp | refine zt ?_ GW128.out _ | refine zt ?_ GW149.out _) | exact HK.out)⟩, ⟨by repeat (first | (with_reducible first | exact HB.out | apply belx_alloc | apply belx_drewN | apply belx_drew | apply belx_setg | refine belx_set ?_ zG.out | refine belx_set ?_ zJ.out) | exact HB.out)⟩⟩
    ·rw [if_neg c27] at H
     have c27b0 : (t150 == 1) = false := beq_eq_false_iff_ne.mpr c27
     have c27b1 : (t150 != 1) = true := bne_iff_ne.mpr c27
     (first | rw [c27b0] | (simp only [zv, zx]; rw [c27b0]) | skip)
     have H' := Aside0.mk H
     clear H
     go_wp2
     go_meet
     case rel => exact ⟨_, (x1001_7), (x1002_7), (x1003_7), (x150000_7), H', ⟨by have := HJ7.out; first | omega | exact Nat.le_refl _⟩, ⟨by (with_reducible repeat (first | refine zf ?_ _ | refine zi ?_ | refine ze ?_ _)); exact zA.out⟩, ⟨by (with_reducible repeat (first | refine zf ?_ _ | refine zi ?_ | refine ze ?_ _)); exact zz.out⟩, ⟨by repeat (first | (with_reducible first | exact HI0.out | apply IsS93.alloc | apply IsS93.drewN | apply IsS93.drew | apply IsS93.set_1 | apply IsS93.set_2 | apply IsS93.set_3 | refine IsS93.far ?_ zD.out _ | refine IsS93.far ?_ zE.out _) | exact HI0.out)⟩, ⟨by repeat (first | (with_reducible first | exact HK.out | apply KeepBut.set_ | apply zq | apply zw | apply zp | refine zt ?_ GW128.out _ | refine zt ?_ GW149.out _) | exact HK.out)⟩, ⟨by repeat (first | (with_reducible first | exact HB.out | apply belx_alloc | apply belx_drewN | apply belx_drew | apply belx_setg | refine belx_set ?_ zG.out | refine belx_set ?_ zJ.out) | exact HB.out)⟩⟩
   case rest =>
    clear HC26
    try clear c1
    try clear c2
    try clear p2
    try clear c3
    try clear c5
    try clear p6
    try clear c16
    try clear c17
    try clear c20
    try clear c20b0
    try clear c20b1
    try clear c23
    try clear c24
    try clear c27
    try clear c27b0
    try clear c27b1
    try clear c30
    try clear c31
    try clear zL
    try clear zM
    try clear zN
    try clear zO
    try clear zP
    try clear zV
    try clear zW
    try clear zX
    try clear zY
    try clear zZ
    try clear zfb
    try clear zgb
    try clear zhb
    try clear zib
    try clear zjb
    try clear zQ
    try clear zR
    try clear zS
    try clear zT
    try clear zU
    try clear zab
    try clear zbb
    try clear zcb
    try clear zdb
    try clear zeb
    try clear zkb
    try clear zlb
    try clear zmb
    try clear znb
    try clear zob
    try clear p2
    try clear p6
    obtain ⟨kq, x1001_25, x1002_25, x1003_25, x150000_25, HA, HJ25, zA, zz, HI0, HK, HB⟩ := hcut
    cases kq with
    | zero => exact absurd HA.out (by simp [spec_l4DrawSuper.j1])
    | succ kj25 =>
     have H := HA.out
     clear HA
     simp only [spec_l4DrawSuper.j1] at H
     have HC33 := Aside0.mk H
     clear H
     go_upto_if 33 with (fail)
     go_cut [] (fun wc => ∃ (kq : Nat) (x1001_32 : Int) (x1002_32 : Int) (x1003_32 : Int) (x150001_32 : Int), Aside0 (spec_l4DrawSuper.j2 kq t150 s0_0 x1001_32 x1002_32 x1003_32 x150000_25 x150001_32 t137 t141 (wrap64 (t145 * 4294)) = some (r1, r2, r3, r4, r5, r6, r7, r8)) ∧ Aside0 (kq ≤ kj25) ∧ Aside0 (wc.heap[zC]? = some (.cells #[.int .i64 0, .int .i64 0, .int .i64 0, .int .i64 0, .int .i64 0] 52 (0, 0))) ∧ Aside0 (wc.heap[zB]? = some (.cells #[.int .i64 x150000_25, .int .i64 x150001_32, .int .i64 t137, .int .i64 t141, .int .i64 (wrap64 (t145 * 4294))] 52 (0, 0))) ∧ Aside0 (IsS93 w0 wc g s0_0 x1001_32 x1002_32 x1003_32) ∧ Aside0 (KeepBut w wc g none) ∧ Aside0 (BelX g w0 wc))
     case first =>
      have H := HC33.out
      clear HC33
      by_cases c34 : t150 = 2
      ·rw [if_pos c34] at H
       have c34b0 : (t150 == 2) = true := beq_iff_eq.mpr c34
       have c34b1 : (t150 != 2) = false := bne_eq_false_iff_eq.mpr c34
       clear c34
       (first | rw [c34b0] | (simp only [zv, zx]; rw [c34b0]) | skip)
       replace H := Option.bind_eq_some_iff.mp H
       obtain ⟨⟨t162, t163, t164, t165⟩, A350, H⟩ := H
       replace H : (spec_l4DrawSuper.j2 kj25 t150 s0_0 t163 t164 t165 x150000_25 (wrap64 (2 - (wrap64 (3 * t162)))) t137 t141 (wrap64 (t145 * 4294))) = some (r1, r2, r3, r4, r5, r6, r7, r8) := H
       have A35 := Aside0.mk A350
       clear A350
       have H' := Aside0.mk H
       clear H
       go_wp2_with (first | ((with_reducible refine zo (f := 36) rfl ?_); refine goesL_ (some 35) rfl rfl Try.func36 (by kernel_rfl) rfl #[.pointer (some ⟨g, 0, none⟩), .int .i64 2] rfl (by (try simp only [List.map_toArray, List.map_cons, List.map_nil]); first | done | rfl | (simp only [List.length_drop, List.length_take]; rfl)) ?_; (with_reducible refine (spec_l1Next.calls g s0_0 x1001_25 x1002_25 x1003_25 2 t162 t163 t164 t165 w0 _ ?side1 ?side2 A35.out).mono ?_); (case side1 => repeat (first | (with_reducible first | exact HI0.out | apply IsS93.alloc | apply IsS93.drewN | apply IsS93.drew | apply IsS93.set_1 | apply IsS93.set_2 | apply IsS93.set_3 | refine IsS93.far ?_ zD.out _ | refine IsS93.far ?_ zE.out _) | exact HI0.out)); (case side2 => repeat (first | (with_reducible first | exact HB.out | apply belx_alloc | apply belx_drewN | apply belx_drew | apply belx_setg | refine belx_set ?_ zG.out | refine belx_set ?_ zJ.out) | exact HB.out)); rintro e w36 ⟨rfl, hi, hb, hk⟩; refine ⟨_, rfl, ?_⟩; have n0_ := Aside0.mk (KeepBut.blk hk (g' := zC) (o := .cells #[.int .i64 0, .int .i64 0, .int .i64 0, .int .i64 0, .int .i64 0] 52 (0, 0)) (by (with_reducible repeat (first | refine zf ?_ _ | refine zi ?_ | refine ze ?_ _)); exact zA.out) zH.out (by simp)); have n1_ := Aside0.mk (KeepBut.blk hk (g' := zB) (o := .cells #[.int .i64 x150000_25, .int .i64 t133, .int .i64 t137, .int .i64 t141, .int .i64 (wrap64 (t145 * 4294))] 52 (0, 0)) (by (with_reducible repeat (first | refine zf ?_ _ | refine zi ?_ | refine ze ?_ _)); exact zz.out) zI.out (by simp)); have n2_ := Aside0.mk (KeepBut.trans (by repeat (first | (with_reducible first | exact HK.out | apply KeepBut.set_ | apply zq | apply zw | apply zp | refine zt ?_ GW128.out _ | refine zt ?_ GW149.out _) | exact HK.out)) hk (.inl rfl)); have n3_ := Aside0.mk (hb); have n4_ := Aside0.mk (hi); clear zA; clear zz; clear HK; clear HB; clear HI0; have zA := n0_; have zz := n1_; have HK := n2_; have HB := n3_; have HI0 := n4_; clear n0_ n1_ n2_ n3_ n4_; (try clear hb); (try clear hb2); (try clear hk); (try clear hi); have zHd := zK.out; have zId := zF.out; have zJd := zI.out; have zKd := zE.out; have zpb : w36.cell? ⟨zB, 0, none⟩ = some (.int .i64 x150000_25) := (zc zz.out 0).trans rfl; have zqb : w36.cell? ⟨zB, 1, none⟩ = some (.int .i64 t133) := (zc zz.out 1).trans rfl; have zrb : w36.cell? ⟨zB, 2, none⟩ = some (.int .i64 t137) := (zc zz.out 2).trans rfl; have zsb : w36.cell? ⟨zB, 3, none⟩ = some (.int .i64 t141) := (zc zz.out 3).trans rfl; have ztb : w36.cell? ⟨zB, 4, none⟩ = some (.int .i64 (wrap64 (t145 * 4294))) := (zc zz.out 4).trans rfl; have zub := zb zz.out 0; have zvb := zb zz.out 1; have zwb := zb zz.out 2; have zxb := zb zz.out 3; have zyb := zb zz.out 4))
       go_meet
       case rel => exact ⟨_, (t163), (t164), (t165), (wrap64 (2 - (wrap64 (3 * t162)))), H', ⟨by have := HJ7.out; have := HJ25.out; first | omega | exact Nat.le_refl _⟩, ⟨by (with_reducible repeat (first | refine zf ?_ _ | refine zi ?_ | refine ze ?_ _)); refine zm ?_ zF.out _; (with_reducible repeat (first | refine zf ?_ _ | refine zi ?_ | refine ze ?_ _)); exact zA.out⟩, ⟨by (with_reducible repeat (first | refine zf ?_ _ | refine zi ?_ | refine ze ?_ _)); refine zn (cs := #[.int .i64 x150000_25, .int .i64 t133, .int .i64 t137, .int .i64 t141, .int .i64 (wrap64 (t145 * 4294))]) ?_ 1 _ rfl; (with_reducible repeat (first | refine zf ?_ _ | refine zi ?_ | refine ze ?_ _)); exact zz.out⟩, ⟨by repeat (first | (with_reducible first | exact HI0.out | apply IsS93.alloc | apply IsS93.drewN | apply IsS93.drew | apply IsS93.set_1 | apply IsS93.set_2 | apply IsS93.set_3 | refine IsS93.far ?_ zD.out _ | refine IsS93.far ?_ zE.out _) | exact HI0.out)⟩, ⟨by repeat (first | (with_reducible first | exact HK.out | apply KeepBut.set_ | apply zq | apply zw | apply zp | refine zt ?_ GW128.out _ | refine zt ?_ GW149.out _) | exact HK.out)⟩, ⟨by repeat (first | (with_reducible first | exact HB.out | apply belx_alloc | apply belx_drewN | apply belx_drew | apply belx_setg | refine belx_set ?_ zG.out | refine belx_set ?_ zJ.out) | exact HB.out)⟩⟩
      ·rw [if_neg c34] at H
       have c34b0 : (t150 == 2) = false := beq_eq_false_iff_ne.mpr c34
       have c34b1 : (t150 != 2) = true := bne_iff_ne.mpr c34
       (first | rw [c34b0] | (simp only [zv, zx]; rw [c34b0]) | skip)
       have H' := Aside0.mk H
       clear H
       go_wp2
       go_meet
       case rel => exact ⟨_, (x1001_25), (x1002_25), (x1003_25), (t133), H', ⟨by have := HJ7.out; have := HJ25.out; first | omega | exact Nat.le_refl _⟩, ⟨by (with_reducible repeat (first | refine zf ?_ _ | refine zi ?_ | refine ze ?_ _)); exact zA.out⟩, ⟨by (with_reducible repeat (first | refine zf ?_ _ | refine zi ?_ | refine ze ?_ _)); exact zz.out⟩, ⟨by repeat (first | (with_reducible first | exact HI0.out | apply IsS93.alloc | apply IsS93.drewN | apply IsS93.drew | apply IsS93.set_1 | apply IsS93.set_2 | apply IsS93.set_3 | refine IsS93.far ?_ zD.out _ | refine IsS93.far ?_ zE.out _) | exact HI0.out)⟩, ⟨by repeat (first | (with_reducible first | exact HK.out | apply KeepBut.set_ | apply zq | apply zw | apply zp | refine zt ?_ GW128.out _ | refine zt ?_ GW149.out _) | exact HK.out)⟩, ⟨by repeat (first | (with_reducible first | exact HB.out | apply belx_alloc | apply belx_drewN | apply belx_drew | apply belx_setg | refine belx_set ?_ zG.out | refine belx_set ?_ zJ.out) | exact HB.out)⟩⟩
     case rest =>
      clear HC33
      try clear c1
      try clear c2
      try clear p2
      try clear c3
      try clear c5
      try clear p6
      try clear c16
      try clear c17
      try clear c20
      try clear c20b0
      try clear c20b1
      try clear c23
      try clear c24
      try clear c27
      try clear c27b0
      try clear c27b1
      try clear c30
      try clear c31
      try clear c34
      try clear c34b0
      try clear c34b1
      try clear c36
      try clear c37
      try clear c38
      try clear zL
      try clear zM
      try clear zN
      try clear zO
      try clear zP
      try clear zV
      try clear zW
      try clear zX
      try clear zY
      try clear zZ
      try clear zfb
      try clear zgb
      try clear zhb
      try clear zib
      try clear zjb
      try clear zpb
      try clear zqb
      try clear zrb
      try clear zsb
      try clear ztb
      try clear zQ
      try clear zR
      try clear zS
      try clear zT
      try clear zU
      try clear zab
      try clear zbb
      try clear zcb
      try clear zdb
      try clear zeb
      try clear zkb
      try clear zlb
      try clear zmb
      try clear znb
      try clear zob
      try clear zub
      try clear zvb
      try clear zwb
      try clear zxb
      try clear zyb
      try clear p2
      try clear p6
      obtain ⟨kq, x1001_32, x1002_32, x1003_32, x150001_32, HA, HJ32, zA, zz, HI0, HK, HB⟩ := hcut
      cases kq with
      | zero => exact absurd HA.out (by simp [spec_l4DrawSuper.j2])
      | succ kj32 =>
       have H := HA.out
       clear HA
       simp only [spec_l4DrawSuper.j2] at H
       have HC40 := Aside0.mk H
       clear H
       go_upto_if 40 with (fail)
       go_cut [] (fun wc => ∃ (kq : Nat) (x1001_39 : Int) (x1002_39 : Int) (x1003_39 : Int) (x150002_39 : Int), Aside0 (spec_l4DrawSuper.j3 kq t150 s0_0 x1001_39 x1002_39 x1003_39 x150000_25 x150001_32 x150002_39 t141 (wrap64 (t145 * 4294)) = some (r1, r2, r3, r4, r5, r6, r7, r8)) ∧ Aside0 (kq ≤ kj32) ∧ Aside0 (wc.heap[zC]? = some (.cells #[.int .i64 0, .int .i64 0, .int .i64 0, .int .i64 0, .int .i64 0] 52 (0, 0))) ∧ Aside0 (wc.heap[zB]? = some (.cells #[.int .i64 x150000_25, .int .i64 x150001_32, .int .i64 x150002_39, .int .i64 t141, .int .i64 (wrap64 (t145 * 4294))] 52 (0, 0))) ∧ Aside0 (IsS93 w0 wc g s0_0 x1001_39 x1002_39 x1003_39) ∧ Aside0 (KeepBut w wc g none) ∧ Aside0 (BelX g w0 wc))
       case first =>
        have H := HC40.out
        clear HC40
        by_cases c41 : t150 = 3
        ·rw [if_pos c41] at H
         have c41b0 : (t150 == 3) = true := beq_iff_eq.mpr c41
         have c41b1 : (t150 != 3) = false := bne_eq_false_iff_eq.mpr c41
         clear c41
         (first | rw [c41b0] | (simp only [zv, zx]; rw [c41b0]) | skip)
         replace H := Option.bind_eq_some_iff.mp H
         obtain ⟨⟨t166, t167, t168, t169⟩, A420, H⟩ := H
         replace H : (spec_l4DrawSuper.j3 kj32 t150 s0_0 t167 t168 t169 x150000_25 x150001_32 (wrap64 (2147483647 + t166)) t141 (wrap64 (t145 * 4294))) = some (r1, r2, r3, r4, r5, r6, r7, r8) := H
         have A42 := Aside0.mk A420
         clear A420
         have H' := Aside0.mk H
         clear H
         go_wp2_with (first | ((with_reducible refine zo (f := 36) rfl ?_); refine goesL_ (some 42) rfl rfl Try.func36 (by kernel_rfl) rfl #[.pointer (some ⟨g, 0, none⟩), .int .i64 2] rfl (by (try simp only [List.map_toArray, List.map_cons, List.map_nil]); first | done | rfl | (simp only [List.length_drop, List.length_take]; rfl)) ?_; (with_reducible refine (spec_l1Next.calls g s0_0 x1001_32 x1002_32 x1003_32 2 t166 t167 t168 t169 w0 _ ?side1 ?side2 A42.out).mono ?_); (case side1 => repeat (first | (with_reducible first | exact HI0.out | apply IsS93.alloc | apply IsS93.drewN | apply IsS93.drew | apply IsS93.set_1 | apply IsS93.set_2 | apply IsS93.set_3 | refine IsS93.far ?_ zD.out _ | refine IsS93.far ?_ zE.out _) | exact HI0.out)); (case side2 => repeat (first | (with_reducible first | exact HB.out | apply belx_alloc | apply belx_drewN | apply belx_drew | apply belx_setg | refine belx_set ?_ zG.out | refine belx_set ?_ zJ.out) | exact HB.out)); rintro e w43 ⟨rfl, hi, hb, hk⟩; refine ⟨_, rfl, ?_⟩; have n0_ := Aside0.mk (KeepBut.blk hk (g' := zC) (o := .cells #[.int .i64 0, .int .i64 0, .int .i64 0, .int .i64 0, .int .i64 0] 52 (0, 0)) (by (with_reducible repeat (first | refine zf ?_ _ | refine zi ?_ | refine ze ?_ _)); exact zA.out) zH.out (by simp)); have n1_ := Aside0.mk (KeepBut.blk hk (g' := zB) (o := .cells #[.int .i64 x150000_25, .int .i64 x150001_32, .int .i64 t137, .int .i64 t141, .int .i64 (wrap64 (t145 * 4294))] 52 (0, 0)) (by (with_reducible repeat (first | refine zf ?_ _ | refine zi ?_ | refine ze ?_ _)); exact zz.out) zI.out (by simp)); have n2_ := Aside0.mk (KeepBut.trans (by repeat (first | (with_reducible first | exact HK.out | apply KeepBut.set_ | apply zq | apply zw | apply zp | refine zt ?_ GW128.out _ | refine zt ?_ GW149.out _) | exact HK.out)) hk (.inl rfl)); have n3_ := Aside0.mk (hb); have n4_ := Aside0.mk (hi); clear zA; clear zz; clear HK; clear HB; clear HI0; have zA := n0_; have zz := n1_; have HK := n2_; have HB := n3_; have HI0 := n4_; clear n0_ n1_ n2_ n3_ n4_; (try clear hb); (try clear hb2); (try clear hk); (try clear hi); have zLd := zK.out; have zMd := zF.out; have zNd := zI.out; have zOd := zE.out; have zzb : w43.cell? ⟨zB, 0, none⟩ = some (.int .i64 x150000_25) := (zc zz.out 0).trans rfl; have zAb : w43.cell? ⟨zB, 1, none⟩ = some (.int .i64 x150001_32) := (zc zz.out 1).trans rfl; have zBb : w43.cell? ⟨zB, 2, none⟩ = some (.int .i64 t137) := (zc zz.out 2).trans rfl; have zCb : w43.cell? ⟨zB, 3, none⟩ = some (.int .i64 t141) := (zc zz.out 3).trans rfl; have zDb : w43.cell? ⟨zB, 4, none⟩ = some (.int .i64 (wrap64 (t145 * 4294))) := (zc zz.out 4).trans rfl; have zEb := zb zz.out 0; have zFb := zb zz.out 1; have zGb := zb zz.out 2; have zHb := zb zz.out 3; have zIb := zb zz.out 4))
         go_meet
         case rel => exact ⟨_, (t167), (t168), (t169), (wrap64 (2147483647 + t166)), H', ⟨by have := HJ7.out; have := HJ25.out; have := HJ32.out; first | omega | exact Nat.le_refl _⟩, ⟨by (with_reducible repeat (first | refine zf ?_ _ | refine zi ?_ | refine ze ?_ _)); refine zm ?_ zF.out _; (with_reducible repeat (first | refine zf ?_ _ | refine zi ?_ | refine ze ?_ _)); exact zA.out⟩, ⟨by (with_reducible repeat (first | refine zf ?_ _ | refine zi ?_ | refine ze ?_ _)); refine zn (cs := #[.int .i64 x150000_25, .int .i64 x150001_32, .int .i64 t137, .int .i64 t141, .int .i64 (wrap64 (t145 * 4294))]) ?_ 2 _ rfl; (with_reducible repeat (first | refine zf ?_ _ | refine zi ?_ | refine ze ?_ _)); exact zz.out⟩, ⟨by repeat (first | (with_reducible first | exact HI0.out | apply IsS93.alloc | apply IsS93.drewN | apply IsS93.drew | apply IsS93.set_1 | apply IsS93.set_2 | apply IsS93.set_3 | refine IsS93.far ?_ zD.out _ | refine IsS93.far ?_ zE.out _) | exact HI0.out)⟩, ⟨by repeat (first | (with_reducible first | exact HK.out | apply KeepBut.set_ | apply zq | apply zw | apply zp | refine zt ?_ GW128.out _ | refine zt ?_ GW149.out _) | exact HK.out)⟩, ⟨by repeat (first | (with_reducible first | exact HB.out | apply belx_alloc | apply belx_drewN | apply belx_drew | apply belx_setg | refine belx_set ?_ zG.out | refine belx_set ?_ zJ.out) | exact HB.out)⟩⟩
        ·rw [if_neg c41] at H
         have c41b0 : (t150 == 3) = false := beq_eq_false_iff_ne.mpr c41
         have c41b1 : (t150 != 3) = true := bne_iff_ne.mpr c41
         (first | rw [c41b0] | (simp only [zv, zx]; rw [c41b0]) | skip)
         have H' := Aside0.mk H
         clear H
         go_wp2
         go_meet
         case rel => exact ⟨_, (x1001_32), (x1002_32), (x1003_32), (t137), H', ⟨by have := HJ7.out; have := HJ25.out; have := HJ32.out; first | omega | exact Nat.le_refl _⟩, ⟨by (with_reducible repeat (first | refine zf ?_ _ | refine zi ?_ | refine ze ?_ _)); exact zA.out⟩, ⟨by (with_reducible repeat (first | refine zf ?_ _ | refine zi ?_ | refine ze ?_ _)); exact zz.out⟩, ⟨by repeat (first | (with_reducible first | exact HI0.out | apply IsS93.alloc | apply IsS93.drewN | apply IsS93.drew | apply IsS93.set_1 | apply IsS93.set_2 | apply IsS93.set_3 | refine IsS93.far ?_ zD.out _ | refine IsS93.far ?_ zE.out _) | exact HI0.out)⟩, ⟨by repeat (first | (with_reducible first | exact HK.out | apply KeepBut.set_ | apply zq | apply zw | apply zp | refine zt ?_ GW128.out _ | refine zt ?_ GW149.out _) | exact HK.out)⟩, ⟨by repeat (first | (with_reducible first | exact HB.out | apply belx_alloc | apply belx_drewN | apply belx_drew | apply belx_setg | refine belx_set ?_ zG.out | refine belx_set ?_ zJ.out) | exact HB.out)⟩⟩
       case rest =>
        clear HC40
        try clear c1
        try clear c2
        try clear p2
        try clear c3
        try clear c4
        try clear c5
        try clear p6
        try clear c16
        try clear c17
        try clear c20
        try clear c20b0
        try clear c20b1
        try clear c23
        try clear c24
        try clear c27
        try clear c27b0
        try clear c27b1
        try clear c30
        try clear c31
        try clear c34
        try clear c34b0
        try clear c34b1
        try clear c36
        try clear c37
        try clear c38
        try clear c41
        try clear c41b0
        try clear c41b1
        try clear c44
        try clear c45
        try clear zL
        try clear zM
        try clear zN
        try clear zO
        try clear zP
        try clear zV
        try clear zW
        try clear zX
        try clear zY
        try clear zZ
        try clear zfb
        try clear zgb
        try clear zhb
        try clear zib
        try clear zjb
        try clear zpb
        try clear zqb
        try clear zrb
        try clear zsb
        try clear ztb
        try clear zzb
        try clear zAb
        try clear zBb
        try clear zCb
        try clear zDb
        try clear zQ
        try clear zR
        try clear zS
        try clear zT
        try clear zU
        try clear zab
        try clear zbb
        try clear zcb
        try clear zdb
        try clear zeb
        try clear zkb
        try clear zlb
        try clear zmb
        try clear znb
        try clear zob
        try clear zub
        try clear zvb
        try clear zwb
        try clear zxb
        try clear zyb
        try clear zEb
        try clear zFb
        try clear zGb
        try clear zHb
        try clear zIb
        try clear p2
        try clear p6
        obtain ⟨kq, x1001_39, x1002_39, x1003_39, x150002_39, HA, HJ39, zA, zz, HI0, HK, HB⟩ := hcut
        cases kq with
        | zero => exact absurd HA.out (by simp [spec_l4DrawSuper.j3])
        | succ kj39 =>
         have H := HA.out
         clear HA
         simp only [spec_l4DrawSuper.j3] at H
         by_cases c47 : t150 = 4
         ·rw [if_pos c47] at H
          have c47b0 : (t150 == 4) = true := beq_iff_eq.mpr c47
          have c47b1 : (t150 != 4) = false := bne_eq_false_iff_eq.mpr c47
          clear c47
          replace H := Option.bind_eq_some_iff.mp H
          obtain ⟨⟨t170, t171, t172, t173⟩, A480, H⟩ := H
          replace H : (if t150 = 5 then ((spec_l1Next.f s0_0 t171 t172 t173 2).bind fun bt174 => (some (x150000_25, x150001_32, x150002_39, wrap64 (4096 + t170), wrap64 (4294967295 + bt174.1), bt174.2.1, bt174.2.2.1, bt174.2.2.2))) else (some (x150000_25, x150001_32, x150002_39, wrap64 (4096 + t170), (wrap64 (t145 * 4294)), t171, t172, t173))) = some (r1, r2, r3, r4, r5, r6, r7, r8) := H
          have A48 := Aside0.mk A480
          clear A480
          by_cases c49 : t150 = 5
          ·rw [if_pos c49] at H
           have c49b0 : (t150 == 5) = true := beq_iff_eq.mpr c49
           have c49b1 : (t150 != 5) = false := bne_eq_false_iff_eq.mpr c49
           clear c49
           replace H := Option.bind_eq_some_iff.mp H
           obtain ⟨⟨t174, t175, t176, t177⟩, A500, H⟩ := H
           replace H : (some (x150000_25, x150001_32, x150002_39, wrap64 (4096 + t170), wrap64 (4294967295 + t174), t175, t176, t177)) = some (r1, r2, r3, r4, r5, r6, r7, r8) := H
           have A50 := Aside0.mk A500
           clear A500
           simp only [Option.some.injEq, Prod.mk.injEq] at H
           obtain ⟨rfl, rfl, rfl, rfl, rfl, rfl, rfl, rfl⟩ := H
           go_wp2_with (first | ((with_reducible refine zo (f := 36) rfl ?_); refine goesL_ (some 48) rfl rfl Try.func36 (by kernel_rfl) rfl #[.pointer (some ⟨g, 0, none⟩), .int .i64 2] rfl (by (try simp only [List.map_toArray, List.map_cons, List.map_nil]); first | done | rfl | (simp only [List.length_drop, List.length_take]; rfl)) ?_; (with_reducible refine (spec_l1Next.calls g s0_0 x1001_39 x1002_39 x1003_39 2 t170 t171 t172 t173 w0 _ ?side1 ?side2 A48.out).mono ?_); (case side1 => repeat (first | (with_reducible first | exact HI0.out | apply IsS93.alloc | apply IsS93.drewN | apply IsS93.drew | apply IsS93.set_1 | apply IsS93.set_2 | apply IsS93.set_3 | refine IsS93.far ?_ zD.out _ | refine IsS93.far ?_ zE.out _) | exact HI0.out)); (case side2 => repeat (first | (with_reducible first | exact HB.out | apply belx_alloc | apply belx_drewN | apply belx_drew | apply belx_setg | refine belx_set ?_ zG.out | refine belx_set ?_ zJ.out) | exact HB.out)); rintro e w51 ⟨rfl, hi, hb, hk⟩; refine ⟨_, rfl, ?_⟩; have n0_ := Aside0.mk (KeepBut.blk hk (g' := zC) (o := .cells #[.int .i64 0, .int .i64 0, .int .i64 0, .int .i64 0, .int .i64 0] 52 (0, 0)) (by (with_reducible repeat (first | refine zf ?_ _ | refine zi ?_ | refine ze ?_ _)); exact zA.out) zH.out (by simp)); have n1_ := Aside0.mk (KeepBut.blk hk (g' := zB) (o := .cells #[.int .i64 x150000_25, .int .i64 x150001_32, .int .i64 x150002_39, .int .i64 t141, .int .i64 (wrap64 (t145 * 4294))] 52 (0, 0)) (by (with_reducible repeat (first | refine zf ?_ _ | refine zi ?_ | refine ze ?_ _)); exact zz.out) zI.out (by simp)); have n2_ := Aside0.mk (KeepBut.trans (by repeat (first | (with_reducible first | exact HK.out | apply KeepBut.set_ | apply zq | apply zw | apply zp | refine zt ?_ GW128.out _ | refine zt ?_ GW149.out _) | exact HK.out)) hk (.inl rfl)); have n3_ := Aside0.mk (hb); have n4_ := Aside0.mk (hi); clear zA; clear zz; clear HK; clear HB; clear HI0; have zA := n0_; have zz := n1_; have HK := n2_; have HB := n3_; have HI0 := n4_; clear n0_ n1_ n2_ n3_ n4_; (try clear hb); (try clear hb2); (try clear hk); (try clear hi); have zPd := zK.out; have zQd := zF.out; have zRd := zI.out; have zSd := zE.out; have zJb : w51.cell? ⟨zB, 0, none⟩ = some (.int .i64 x150000_25) := (zc zz.out 0).trans rfl; have zKb : w51.cell? ⟨zB, 1, none⟩ = some (.int .i64 x150001_32) := (zc zz.out 1).trans rfl; have zLb : w51.cell? ⟨zB, 2, none⟩ = some (.int .i64 x150002_39) := (zc zz.out 2).trans rfl; have zMb : w51.cell? ⟨zB, 3, none⟩ = some (.int .i64 t141) := (zc zz.out 3).trans rfl; have zNb : w51.cell? ⟨zB, 4, none⟩ = some (.int .i64 (wrap64 (t145 * 4294))) := (zc zz.out 4).trans rfl; have zOb := zb zz.out 0; have zPb := zb zz.out 1; have zQb := zb zz.out 2; have zRb := zb zz.out 3; have zSb := zb zz.out 4) | ((with_reducible refine zo (f := 36) rfl ?_); refine goesL_ (some 54) rfl rfl Try.func36 (by kernel_rfl) rfl #[.pointer (some ⟨g, 0, none⟩), .int .i64 2] rfl (by (try simp only [List.map_toArray, List.map_cons, List.map_nil]); first | done | rfl | (simp only [List.length_drop, List.length_take]; rfl)) ?_; (with_reducible refine (spec_l1Next.calls g s0_0 t171 t172 t173 2 t174 t175 t176 t177 w0 _ ?side1 ?side2 A50.out).mono ?_); (case side1 => repeat (first | (with_reducible first | exact HI0.out | apply IsS93.alloc | apply IsS93.drewN | apply IsS93.drew | apply IsS93.set_1 | apply IsS93.set_2 | apply IsS93.set_3 | refine IsS93.far ?_ zD.out _ | refine IsS93.far ?_ zE.out _) | exact HI0.out)); (case side2 => repeat (first | (with_reducible first | exact HB.out | apply belx_alloc | apply belx_drewN | apply belx_drew | apply belx_setg | refine belx_set ?_ zG.out | refine belx_set ?_ zJ.out) | exact HB.out)); rintro e w55 ⟨rfl, hi, hb, hk⟩; refine ⟨_, rfl, ?_⟩; have n0_ := Aside0.mk (KeepBut.blk hk (g' := zC) (o := .cells #[.int .i64 0, .int .i64 0, .int .i64 0, .int .i64 0, .int .i64 0] 52 (0, 0)) (by (with_reducible repeat (first | refine zf ?_ _ | refine zi ?_ | refine ze ?_ _)); refine zm ?_ zF.out _; (with_reducible repeat (first | refine zf ?_ _ | refine zi ?_ | refine ze ?_ _)); exact zA.out) zH.out (by simp)); have n1_ := Aside0.mk (KeepBut.blk hk (g' := zB) (o := .cells #[.int .i64 x150000_25, .int .i64 x150001_32, .int .i64 x150002_39, .int .i64 (wrap64 (4096 + t170)), .int .i64 (wrap64 (t145 * 4294))] 52 (0, 0)) (by (with_reducible repeat (first | refine zf ?_ _ | refine zi ?_ | refine ze ?_ _)); refine zn (cs := #[.int .i64 x150000_25, .int .i64 x150001_32, .int .i64 x150002_39, .int .i64 t141, .int .i64 (wrap64 (t145 * 4294))]) ?_ 3 _ rfl; (with_reducible repeat (first | refine zf ?_ _ | refine zi ?_ | refine ze ?_ _)); exact zz.out) zI.out (by simp)); have n2_ := Aside0.mk (KeepBut.trans (by repeat (first | (with_reducible first | exact HK.out | apply KeepBut.set_ | apply zq | apply zw | apply zp | refine zt ?_ GW128.out _ | refine zt ?_ GW149.out _) | exact HK.out)) hk (.inl rfl)); have n3_ := Aside0.mk (hb); have n4_ := Aside0.mk (hi); clear zA; clear zz; clear HK; clear HB; clear HI0; have zA := n0_; have zz := n1_; have HK := n2_; have HB := n3_; have HI0 := n4_; clear n0_ n1_ n2_ n3_ n4_; (try clear hb); (try clear hb2); (try clear hk); (try clear hi); have zTb : w55.cell? ⟨zB, 0, none⟩ = some (.int .i64 x150000_25) := (zc zz.out 0).trans rfl; have zUb : w55.cell? ⟨zB, 1, none⟩ = some (.int .i64 x150001_32) := (zc zz.out 1).trans rfl; have zVb : w55.cell? ⟨zB, 2, none⟩ = some (.int .i64 x150002_39) := (zc zz.out 2).trans rfl; have zWb : w55.cell? ⟨zB, 3, none⟩ = some (.int .i64 (wrap64 (4096 + t170))) := (zc zz.out 3).trans rfl; have zXb : w55.cell? ⟨zB, 4, none⟩ = some (.int .i64 (wrap64 (t145 * 4294))) := (zc zz.out 4).trans rfl; have zYb := zb zz.out 0; have zZb := zb zz.out 1; have zac := zb zz.out 2; have zbc := zb zz.out 3; have zcc := zb zz.out 4; have zTd := zH.out; have zUd := zD.out; have zdc : w55.cell? ⟨zC, 0, none⟩ = some (.int .i64 0) := (zc zA.out 0).trans rfl; have zec : w55.cell? ⟨zC, 1, none⟩ = some (.int .i64 0) := (zc zA.out 1).trans rfl; have zfc : w55.cell? ⟨zC, 2, none⟩ = some (.int .i64 0) := (zc zA.out 2).trans rfl; have zgc : w55.cell? ⟨zC, 3, none⟩ = some (.int .i64 0) := (zc zA.out 3).trans rfl; have zhc : w55.cell? ⟨zC, 4, none⟩ = some (.int .i64 0) := (zc zA.out 4).trans rfl; have zic := zb zA.out 0; have zjc := zb zA.out 1; have zkc := zb zA.out 2; have zlc := zb zA.out 3; have zmc := zb zA.out 4))
           refine bodyPost_ret (results_cell_row rfl _ _ zC 52 #[.int .i64 x150000_25, .int .i64 x150001_32, .int .i64 x150002_39, .int .i64 (wrap64 (4096 + t170)), .int .i64 (wrap64 (4294967295 + t174))] (0, 0) _ rfl (by (with_reducible repeat (first | refine zf ?_ _ | refine zi ?_ | refine ze ?_ _)); refine zn (cs := #[.int .i64 x150000_25, .int .i64 x150001_32, .int .i64 x150002_39, .int .i64 (wrap64 (4096 + t170)), .int .i64 0]) ?_ 4 _ rfl; (with_reducible repeat (first | refine zf ?_ _ | refine zi ?_ | refine ze ?_ _)); refine zn (cs := #[.int .i64 x150000_25, .int .i64 x150001_32, .int .i64 x150002_39, .int .i64 0, .int .i64 0]) ?_ 3 _ rfl; (with_reducible repeat (first | refine zf ?_ _ | refine zi ?_ | refine ze ?_ _)); refine zn (cs := #[.int .i64 x150000_25, .int .i64 x150001_32, .int .i64 0, .int .i64 0, .int .i64 0]) ?_ 2 _ rfl; (with_reducible repeat (first | refine zf ?_ _ | refine zi ?_ | refine ze ?_ _)); refine zn (cs := #[.int .i64 x150000_25, .int .i64 0, .int .i64 0, .int .i64 0, .int .i64 0]) ?_ 1 _ rfl; (with_reducible repeat (first | refine zf ?_ _ | refine zi ?_ | refine ze ?_ _)); refine zn (cs := #[.int .i64 0, .int .i64 0, .int .i64 0, .int .i64 0, .int .i64 0]) ?_ 0 _ rfl; (with_reducible repeat (first | refine zf ?_ _ | refine zi ?_ | refine ze ?_ _)); refine zm ?_ zF.out _; (with_reducible repeat (first | refine zf ?_ _ | refine zi ?_ | refine ze ?_ _)); exact zA.out) Try.underlying52 rfl (by kernel_rfl)) rfl ?_
           exact ⟨by first | rfl | (simp [errW_none, errW_some] <;> rfl) | (simp [*, errW_none, errW_some] <;> rfl), by repeat (first | (with_reducible first | exact HI0.out | apply IsS93.alloc | apply IsS93.drewN | apply IsS93.drew | apply IsS93.set_1 | apply IsS93.set_2 | apply IsS93.set_3 | refine IsS93.far ?_ zD.out _ | refine IsS93.far ?_ zE.out _) | exact HI0.out), by repeat (first | (with_reducible first | exact HB.out | apply belx_alloc | apply belx_drewN | apply belx_drew | apply belx_setg | refine belx_set ?_ zG.out | refine belx_set ?_ zJ.out) | exact HB.out), by repeat (first | (with_reducible first | exact HK.out | apply KeepBut.set_ | apply zq | apply zw | apply zp | refine zt ?_ GW128.out _ | refine zt ?_ GW149.out _) | exact HK.out)⟩
          ·rw [if_neg c49] at H
           have c49b0 : (t150 == 5) = false := beq_eq_false_iff_ne.mpr c49
           have c49b1 : (t150 != 5) = true := bne_iff_ne.mpr c49
           simp only [Option.some.injEq, Prod.mk.injEq] at H
           obtain ⟨rfl, rfl, rfl, rfl, rfl, rfl, rfl, rfl⟩ := H
           go_wp2_with (first | ((with_reducible refine zo (f := 36) rfl ?_); refine goesL_ (some 48) rfl rfl Try.func36 (by kernel_rfl) rfl #[.pointer (some ⟨g, 0, none⟩), .int .i64 2] rfl (by (try simp only [List.map_toArray, List.map_cons, List.map_nil]); first | done | rfl | (simp only [List.length_drop, List.length_take]; rfl)) ?_; (with_reducible refine (spec_l1Next.calls g s0_0 x1001_39 x1002_39 x1003_39 2 t170 t171 t172 t173 w0 _ ?side1 ?side2 A48.out).mono ?_); (case side1 => repeat (first | (with_reducible first | exact HI0.out | apply IsS93.alloc | apply IsS93.drewN | apply IsS93.drew | apply IsS93.set_1 | apply IsS93.set_2 | apply IsS93.set_3 | refine IsS93.far ?_ zD.out _ | refine IsS93.far ?_ zE.out _) | exact HI0.out)); (case side2 => repeat (first | (with_reducible first | exact HB.out | apply belx_alloc | apply belx_drewN | apply belx_drew | apply belx_setg | refine belx_set ?_ zG.out | refine belx_set ?_ zJ.out) | exact HB.out)); rintro e w59 ⟨rfl, hi, hb, hk⟩; refine ⟨_, rfl, ?_⟩; have n0_ := Aside0.mk (KeepBut.blk hk (g' := zC) (o := .cells #[.int .i64 0, .int .i64 0, .int .i64 0, .int .i64 0, .int .i64 0] 52 (0, 0)) (by (with_reducible repeat (first | refine zf ?_ _ | refine zi ?_ | refine ze ?_ _)); exact zA.out) zH.out (by simp)); have n1_ := Aside0.mk (KeepBut.blk hk (g' := zB) (o := .cells #[.int .i64 x150000_25, .int .i64 x150001_32, .int .i64 x150002_39, .int .i64 t141, .int .i64 (wrap64 (t145 * 4294))] 52 (0, 0)) (by (with_reducible repeat (first | refine zf ?_ _ | refine zi ?_ | refine ze ?_ _)); exact zz.out) zI.out (by simp)); have n2_ := Aside0.mk (KeepBut.trans (by repeat (first | (with_reducible first | exact HK.out | apply KeepBut.set_ | apply zq | apply zw | apply zp | refine zt ?_ GW128.out _ | refine zt ?_ GW149.out _) | exact HK.out)) hk (.inl rfl)); have n3_ := Aside0.mk (hb); have n4_ := Aside0.mk (hi); clear zA; clear zz; clear HK; clear HB; clear HI0; have zA := n0_; have zz := n1_; have HK := n2_; have HB := n3_; have HI0 := n4_; clear n0_ n1_ n2_ n3_ n4_; (try clear hb); (try clear hb2); (try clear hk); (try clear hi); have zVd := zK.out; have zWd := zF.out; have zXd := zI.out; have zYd := zE.out; have znc : w59.cell? ⟨zB, 0, none⟩ = some (.int .i64 x150000_25) := (zc zz.out 0).trans rfl; have zoc : w59.cell? ⟨zB, 1, none⟩ = some (.int .i64 x150001_32) := (zc zz.out 1).trans rfl; have zpc : w59.cell? ⟨zB, 2, none⟩ = some (.int .i64 x150002_39) := (zc zz.out 2).trans rfl; have zqc : w59.cell? ⟨zB, 3, none⟩ = some (.int .i64 t141) := (zc zz.out 3).trans rfl; have zrc : w59.cell? ⟨zB, 4, none⟩ = some (.int .i64 (wrap64 (t145 * 4294))) := (zc zz.out 4).trans rfl; have zsc := zb zz.out 0; have ztc := zb zz.out 1; have zuc := zb zz.out 2; have zvc := zb zz.out 3; have zwc := zb zz.out 4; have zZd := zH.out; have zae := zD.out; have zxc : w59.cell? ⟨zC, 0, none⟩ = some (.int .i64 0) := (zc zA.out 0).trans rfl; have zyc : w59.cell? ⟨zC, 1, none⟩ = some (.int .i64 0) := (zc zA.out 1).trans rfl; have zzc : w59.cell? ⟨zC, 2, none⟩ = some (.int .i64 0) := (zc zA.out 2).trans rfl; have zAc : w59.cell? ⟨zC, 3, none⟩ = some (.int .i64 0) := (zc zA.out 3).trans rfl; have zBc : w59.cell? ⟨zC, 4, none⟩ = some (.int .i64 0) := (zc zA.out 4).trans rfl; have zCc := zb zA.out 0; have zDc := zb zA.out 1; have zEc := zb zA.out 2; have zFc := zb zA.out 3; have zGc := zb zA.out 4))
           refine bodyPost_ret (results_cell_row rfl _ _ zC 52 #[.int .i64 x150000_25, .int .i64 x150001_32, .int .i64 x150002_39, .int .i64 (wrap64 (4096 + t170)), .int .i64 (wrap64 (t145 * 4294))] (0, 0) _ rfl (by (with_reducible repeat (first | refine zf ?_ _ | refine zi ?_ | refine ze ?_ _)); refine zn (cs := #[.int .i64 x150000_25, .int .i64 x150001_32, .int .i64 x150002_39, .int .i64 (wrap64 (4096 + t170)), .int .i64 0]) ?_ 4 _ rfl; (with_reducible repeat (first | refine zf ?_ _ | refine zi ?_ | refine ze ?_ _)); refine zn (cs := #[.int .i64 x150000_25, .int .i64 x150001_32, .int .i64 x150002_39, .int .i64 0, .int .i64 0]) ?_ 3 _ rfl; (with_reducible repeat (first | refine zf ?_ _ | refine zi ?_ | refine ze ?_ _)); refine zn (cs := #[.int .i64 x150000_25, .int .i64 x150001_32, .int .i64 0, .int .i64 0, .int .i64 0]) ?_ 2 _ rfl; (with_reducible repeat (first | refine zf ?_ _ | refine zi ?_ | refine ze ?_ _)); refine zn (cs := #[.int .i64 x150000_25, .int .i64 0, .int .i64 0, .int .i64 0, .int .i64 0]) ?_ 1 _ rfl; (with_reducible repeat (first | refine zf ?_ _ | refine zi ?_ | refine ze ?_ _)); refine zn (cs := #[.int .i64 0, .int .i64 0, .int .i64 0, .int .i64 0, .int .i64 0]) ?_ 0 _ rfl; (with_reducible repeat (first | refine zf ?_ _ | refine zi ?_ | refine ze ?_ _)); refine zm ?_ zF.out _; (with_reducible repeat (first | refine zf ?_ _ | refine zi ?_ | refine ze ?_ _)); exact zA.out) Try.underlying52 rfl (by kernel_rfl)) rfl ?_
           exact ⟨by first | rfl | (simp [errW_none, errW_some] <;> rfl) | (simp [*, errW_none, errW_some] <;> rfl), by repeat (first | (with_reducible first | exact HI0.out | apply IsS93.alloc | apply IsS93.drewN | apply IsS93.drew | apply IsS93.set_1 | apply IsS93.set_2 | apply IsS93.set_3 | refine IsS93.far ?_ zD.out _ | refine IsS93.far ?_ zE.out _) | exact HI0.out), by repeat (first | (with_reducible first | exact HB.out | apply belx_alloc | apply belx_drewN | apply belx_drew | apply belx_setg | refine belx_set ?_ zG.out | refine belx_set ?_ zJ.out) | exact HB.out), by repeat (first | (with_reducible first | exact HK.out | apply KeepBut.set_ | apply zq | apply zw | apply zp | refine zt ?_ GW128.out _ | refine zt ?_ GW149.out _) | exact HK.out)⟩
         ·rw [if_neg c47] at H
          have c47b0 : (t150 == 4) = false := beq_eq_false_iff_ne.mpr c47
          have c47b1 : (t150 != 4) = true := bne_iff_ne.mpr c47
          by_cases c65 : t150 = 5
          ·rw [if_pos c65] at H
           have c65b0 : (t150 == 5) = true := beq_iff_eq.mpr c65
           have c65b1 : (t150 != 5) = false := bne_eq_false_iff_eq.mpr c65
           clear c65
           replace H := Option.bind_eq_some_iff.mp H
           obtain ⟨⟨t178, t179, t180, t181⟩, A660, H⟩ := H
           replace H : (some (x150000_25, x150001_32, x150002_39, t141, wrap64 (4294967295 + t178), t179, t180, t181)) = some (r1, r2, r3, r4, r5, r6, r7, r8) := H
           have A66 := Aside0.mk A660
           clear A660
           simp only [Option.some.injEq, Prod.mk.injEq] at H
           obtain ⟨rfl, rfl, rfl, rfl, rfl, rfl, rfl, rfl⟩ := H
           go_wp2_with (first | ((with_reducible refine zo (f := 36) rfl ?_); refine goesL_ (some 54) rfl rfl Try.func36 (by kernel_rfl) rfl #[.pointer (some ⟨g, 0, none⟩), .int .i64 2] rfl (by (try simp only [List.map_toArray, List.map_cons, List.map_nil]); first | done | rfl | (simp only [List.length_drop, List.length_take]; rfl)) ?_; (with_reducible refine (spec_l1Next.calls g s0_0 x1001_39 x1002_39 x1003_39 2 t178 t179 t180 t181 w0 _ ?side1 ?side2 A66.out).mono ?_); (case side1 => repeat (first | (with_reducible first | exact HI0.out | apply IsS93.alloc | apply IsS93.drewN | apply IsS93.drew | apply IsS93.set_1 | apply IsS93.set_2 | apply IsS93.set_3 | refine IsS93.far ?_ zD.out _ | refine IsS93.far ?_ zE.out _) | exact HI0.out)); (case side2 => repeat (first | (with_reducible first | exact HB.out | apply belx_alloc | apply belx_drewN | apply belx_drew | apply belx_setg | refine belx_set ?_ zG.out | refine belx_set ?_ zJ.out) | exact HB.out)); rintro e w67 ⟨rfl, hi, hb, hk⟩; refine ⟨_, rfl, ?_⟩; have n0_ := Aside0.mk (KeepBut.blk hk (g' := zC) (o := .cells #[.int .i64 0, .int .i64 0, .int .i64 0, .int .i64 0, .int .i64 0] 52 (0, 0)) (by (with_reducible repeat (first | refine zf ?_ _ | refine zi ?_ | refine ze ?_ _)); exact zA.out) zH.out (by simp)); have n1_ := Aside0.mk (KeepBut.blk hk (g' := zB) (o := .cells #[.int .i64 x150000_25, .int .i64 x150001_32, .int .i64 x150002_39, .int .i64 t141, .int .i64 (wrap64 (t145 * 4294))] 52 (0, 0)) (by (with_reducible repeat (first | refine zf ?_ _ | refine zi ?_ | refine ze ?_ _)); exact zz.out) zI.out (by simp)); have n2_ := Aside0.mk (KeepBut.trans (by repeat (first | (with_reducible first | exact HK.out | apply KeepBut.set_ | apply zq | apply zw | apply zp | refine zt ?_ GW128.out _ | refine zt ?_ GW149.out _) | exact HK.out)) hk (.inl rfl)); have n3_ := Aside0.mk (hb); have n4_ := Aside0.mk (hi); clear zA; clear zz; clear HK; clear HB; clear HI0; have zA := n0_; have zz := n1_; have HK := n2_; have HB := n3_; have HI0 := n4_; clear n0_ n1_ n2_ n3_ n4_; (try clear hb); (try clear hb2); (try clear hk); (try clear hi); have zbe := zK.out; have zce := zF.out; have zde := zI.out; have zee := zE.out; have zHc : w67.cell? ⟨zB, 0, none⟩ = some (.int .i64 x150000_25) := (zc zz.out 0).trans rfl; have zIc : w67.cell? ⟨zB, 1, none⟩ = some (.int .i64 x150001_32) := (zc zz.out 1).trans rfl; have zJc : w67.cell? ⟨zB, 2, none⟩ = some (.int .i64 x150002_39) := (zc zz.out 2).trans rfl; have zKc : w67.cell? ⟨zB, 3, none⟩ = some (.int .i64 t141) := (zc zz.out 3).trans rfl; have zLc : w67.cell? ⟨zB, 4, none⟩ = some (.int .i64 (wrap64 (t145 * 4294))) := (zc zz.out 4).trans rfl; have zMc := zb zz.out 0; have zNc := zb zz.out 1; have zOc := zb zz.out 2; have zPc := zb zz.out 3; have zQc := zb zz.out 4; have zfe := zH.out; have zge := zD.out; have zRc : w67.cell? ⟨zC, 0, none⟩ = some (.int .i64 0) := (zc zA.out 0).trans rfl; have zSc : w67.cell? ⟨zC, 1, none⟩ = some (.int .i64 0) := (zc zA.out 1).trans rfl; have zTc : w67.cell? ⟨zC, 2, none⟩ = some (.int .i64 0) := (zc zA.out 2).trans rfl; have zUc : w67.cell? ⟨zC, 3, none⟩ = some (.int .i64 0) := (zc zA.out 3).trans rfl; have zVc : w67.cell? ⟨zC, 4, none⟩ = some (.int .i64 0) := (zc zA.out 4).trans rfl; have zWc := zb zA.out 0; have zXc := zb zA.out 1; have zYc := zb zA.out 2; have zZc := zb zA.out 3; have zad := zb zA.out 4))
           refine bodyPost_ret (results_cell_row rfl _ _ zC 52 #[.int .i64 x150000_25, .int .i64 x150001_32, .int .i64 x150002_39, .int .i64 t141, .int .i64 (wrap64 (4294967295 + t178))] (0, 0) _ rfl (by (with_reducible repeat (first | refine zf ?_ _ | refine zi ?_ | refine ze ?_ _)); refine zn (cs := #[.int .i64 x150000_25, .int .i64 x150001_32, .int .i64 x150002_39, .int .i64 t141, .int .i64 0]) ?_ 4 _ rfl; (with_reducible repeat (first | refine zf ?_ _ | refine zi ?_ | refine ze ?_ _)); refine zn (cs := #[.int .i64 x150000_25, .int .i64 x150001_32, .int .i64 x150002_39, .int .i64 0, .int .i64 0]) ?_ 3 _ rfl; (with_reducible repeat (first | refine zf ?_ _ | refine zi ?_ | refine ze ?_ _)); refine zn (cs := #[.int .i64 x150000_25, .int .i64 x150001_32, .int .i64 0, .int .i64 0, .int .i64 0]) ?_ 2 _ rfl; (with_reducible repeat (first | refine zf ?_ _ | refine zi ?_ | refine ze ?_ _)); refine zn (cs := #[.int .i64 x150000_25, .int .i64 0, .int .i64 0, .int .i64 0, .int .i64 0]) ?_ 1 _ rfl; (with_reducible repeat (first | refine zf ?_ _ | refine zi ?_ | refine ze ?_ _)); refine zn (cs := #[.int .i64 0, .int .i64 0, .int .i64 0, .int .i64 0, .int .i64 0]) ?_ 0 _ rfl; (with_reducible repeat (first | refine zf ?_ _ | refine zi ?_ | refine ze ?_ _)); refine zm ?_ zF.out _; (with_reducible repeat (first | refine zf ?_ _ | refine zi ?_ | refine ze ?_ _)); exact zA.out) Try.underlying52 rfl (by kernel_rfl)) rfl ?_
           exact ⟨by first | rfl | (simp [errW_none, errW_some] <;> rfl) | (simp [*, errW_none, errW_some] <;> rfl), by repeat (first | (with_reducible first | exact HI0.out | apply IsS93.alloc | apply IsS93.drewN | apply IsS93.drew | apply IsS93.set_1 | apply IsS93.set_2 | apply IsS93.set_3 | refine IsS93.far ?_ zD.out _ | refine IsS93.far ?_ zE.out _) | exact HI0.out), by repeat (first | (with_reducible first | exact HB.out | apply belx_alloc | apply belx_drewN | apply belx_drew | apply belx_setg | refine belx_set ?_ zG.out | refine belx_set ?_ zJ.out) | exact HB.out), by repeat (first | (with_reducible first | exact HK.out | apply KeepBut.set_ | apply zq | apply zw | apply zp | refine zt ?_ GW128.out _ | refine zt ?_ GW149.out _) | exact HK.out)⟩
          ·rw [if_neg c65] at H
           have c65b0 : (t150 == 5) = false := beq_eq_false_iff_ne.mpr c65
           have c65b1 : (t150 != 5) = true := bne_iff_ne.mpr c65
           simp only [Option.some.injEq, Prod.mk.injEq] at H
           obtain ⟨rfl, rfl, rfl, rfl, rfl, rfl, rfl, rfl⟩ := H
           have zhe := zK.out
           have zie := zF.out
           have zje := zI.out
           have zke := zE.out
           have zbd : wc.cell? ⟨zB, 0, none⟩ = some (.int .i64 x150000_25) := (zc zz.out 0).trans rfl
           have zcd : wc.cell? ⟨zB, 1, none⟩ = some (.int .i64 x150001_32) := (zc zz.out 1).trans rfl
           have zdd : wc.cell? ⟨zB, 2, none⟩ = some (.int .i64 x150002_39) := (zc zz.out 2).trans rfl
           have zed : wc.cell? ⟨zB, 3, none⟩ = some (.int .i64 t141) := (zc zz.out 3).trans rfl
           have zfd : wc.cell? ⟨zB, 4, none⟩ = some (.int .i64 (wrap64 (t145 * 4294))) := (zc zz.out 4).trans rfl
           have zgd := zb zz.out 0
           have zhd := zb zz.out 1
           have zid := zb zz.out 2
           have zjd := zb zz.out 3
           have zkd := zb zz.out 4
           have zle := zH.out
           have zme := zD.out
           have zld : wc.cell? ⟨zC, 0, none⟩ = some (.int .i64 0) := (zc zA.out 0).trans rfl
           have zmd : wc.cell? ⟨zC, 1, none⟩ = some (.int .i64 0) := (zc zA.out 1).trans rfl
           have znd : wc.cell? ⟨zC, 2, none⟩ = some (.int .i64 0) := (zc zA.out 2).trans rfl
           have zod : wc.cell? ⟨zC, 3, none⟩ = some (.int .i64 0) := (zc zA.out 3).trans rfl
           have zpd : wc.cell? ⟨zC, 4, none⟩ = some (.int .i64 0) := (zc zA.out 4).trans rfl
           have zqd := zb zA.out 0
           have zrd := zb zA.out 1
           have zsd := zb zA.out 2
           have ztd := zb zA.out 3
           have zud := zb zA.out 4
           go_wp2
           refine bodyPost_ret (results_cell_row rfl _ _ zC 52 #[.int .i64 x150000_25, .int .i64 x150001_32, .int .i64 x150002_39, .int .i64 t141, .int .i64 (wrap64 (t145 * 4294))] (0, 0) _ rfl (by (with_reducible repeat (first | refine zf ?_ _ | refine zi ?_ | refine ze ?_ _)); refine zn (cs := #[.int .i64 x150000_25, .int .i64 x150001_32, .int .i64 x150002_39, .int .i64 t141, .int .i64 0]) ?_ 4 _ rfl; (with_reducible repeat (first | refine zf ?_ _ | refine zi ?_ | refine ze ?_ _)); refine zn (cs := #[.int .i64 x150000_25, .int .i64 x150001_32, .int .i64 x150002_39, .int .i64 0, .int .i64 0]) ?_ 3 _ rfl; (with_reducible repeat (first | refine zf ?_ _ | refine zi ?_ | refine ze ?_ _)); refine zn (cs := #[.int .i64 x150000_25, .int .i64 x150001_32, .int .i64 0, .int .i64 0, .int .i64 0]) ?_ 2 _ rfl; (with_reducible repeat (first | refine zf ?_ _ | refine zi ?_ | refine ze ?_ _)); refine zn (cs := #[.int .i64 x150000_25, .int .i64 0, .int .i64 0, .int .i64 0, .int .i64 0]) ?_ 1 _ rfl; (with_reducible repeat (first | refine zf ?_ _ | refine zi ?_ | refine ze ?_ _)); refine zn (cs := #[.int .i64 0, .int .i64 0, .int .i64 0, .int .i64 0, .int .i64 0]) ?_ 0 _ rfl; (with_reducible repeat (first | refine zf ?_ _ | refine zi ?_ | refine ze ?_ _)); exact zA.out) Try.underlying52 rfl (by kernel_rfl)) rfl ?_
           exact ⟨by first | rfl | (simp [errW_none, errW_some] <;> rfl) | (simp [*, errW_none, errW_some] <;> rfl), by repeat (first | (with_reducible first | exact HI0.out | apply IsS93.alloc | apply IsS93.drewN | apply IsS93.drew | apply IsS93.set_1 | apply IsS93.set_2 | apply IsS93.set_3 | refine IsS93.far ?_ zD.out _ | refine IsS93.far ?_ zE.out _) | exact HI0.out), by repeat (first | (with_reducible first | exact HB.out | apply belx_alloc | apply belx_drewN | apply belx_drew | apply belx_setg | refine belx_set ?_ zG.out | refine belx_set ?_ zJ.out) | exact HB.out), by repeat (first | (with_reducible first | exact HK.out | apply KeepBut.set_ | apply zq | apply zw | apply zp | refine zt ?_ GW128.out _ | refine zt ?_ GW149.out _) | exact HK.out)⟩
theorem spec_l4DrawSuper.callsX (k : Nat) (g : Nat) (s0_0 : List Int) (s0_1 : Int) (s0_2 : Int) (s0_3 : Int) (r1 : Int) (r2 : Int) (r3 : Int) (r4 : Int) (r5 : Int) (r6 : Int) (r7 : Int) (r8 : Int) (w0 w : World) (hI : IsX93 w0 w g s0_0 s0_1 s0_2 s0_3) (hB : Below w0.heap.size w0 w) (h : spec_l4DrawSuper.f k s0_0 s0_1 s0_2 s0_3 = some (r1, r2, r3, r4, r5, r6, r7, r8)) :
  Calls Try.prog 51 #[.pointer (some ⟨g, 0, none⟩)] w fun e w' => e = .returned (.agg #[.int .i64 r1, .int .i64 r2, .int .i64 r3, .int .i64 r4, .int .i64 r5]) ∧ IsX93 w0 w' g s0_0 r6 r7 r8 ∧ Below w0.heap.size w0 w' ∧ KeepBut w w' g none := by
 obtain ⟨wc_, hS_, hX_, hg_, hs_⟩ := hI
 refine (spec_l4DrawSuper.calls k g s0_0 s0_1 s0_2 s0_3 r1 r2 r3 r4 r5 r6 r7 r8 wc_ w hS_ hX_ h).mono ?_
 rintro e w' ⟨q0_, q1_, q2_, q3_⟩
 exact ⟨q0_, ⟨wc_, q1_, q2_, hg_, hs_⟩, belx_out hB hX_ q2_ q3_ hg_, q3_⟩

def spec_DrawEncodeSuper.f (k : Nat) (l0 : List Int) : Option (Int × Int × Int × Int × Int) := (spec_l1Source.f k l0).bind fun bt183 => ((spec_l4DrawSuper.f k bt183.1 bt183.2.1 bt183.2.2.1 bt183.2.2.2).bind fun bt188 => (some (bt188.1, bt188.2.1, bt188.2.2.1, bt188.2.2.2.1, bt188.2.2.2.2.1)))
theorem spec_DrawEncodeSuper.mono : ∀ a0 k, LeO (spec_DrawEncodeSuper.f k a0) (spec_DrawEncodeSuper.f (k + 1) a0) := by
 intro a0 k
 unfold spec_DrawEncodeSuper.f
 repeat' first
   | (with_reducible exact spec_l1Source.mono _ _)
   | (with_reducible exact spec_l4DrawSuper.mono _ _ _ _ _)
   | (with_reducible exact LeO.refl _)
   | (with_reducible exact LeO.none _)
   | (with_reducible refine LeO.ite ?_ ?_)
   | (with_reducible refine LeO.bind ?_ (fun _ => ?_))
   | exact spec_l1Source.mono _ _
   | exact spec_l4DrawSuper.mono _ _ _ _ _
   | exact LeO.none _
   | refine LeO.ite ?_ ?_
   | refine LeO.bind ?_ (fun _ => ?_)
set_option maxHeartbeats 8000000 in
set_option maxRecDepth 100000 in
theorem spec_DrawEncodeSuper.calls (k : Nat) (A0 : Option Addr) (c0 : Nat) (l0 : List Int) (r1 : Int) (r2 : Int) (r3 : Int) (r4 : Int) (r5 : Int) (w : World) (hr0 : Kd.C (Kd.int .u8) w A0 l0.length l0) (hc0 : l0.length ≤ c0) (h : spec_DrawEncodeSuper.f k l0 = some (r1, r2, r3, r4, r5)) :
  Calls Try.prog 25 #[.slice A0 l0.length c0] w fun e w' => e = .returned (.agg #[.int .i64 r1, .int .i64 r2, .int .i64 r3, .int .i64 r4, .int .i64 r5]) ∧ Below w.heap.size w w' := by
 have hu52 := Try.underlying52
 have HR0 := Aside0.mk hr0
 have HC0 := Aside0.mk hc0
 clear hr0 hc0
 have HB := Aside0.mk (Below.refl w.heap.size w)
 have H : ((spec_l1Source.f k l0).bind fun bt183 => ((spec_l4DrawSuper.f k bt183.1 bt183.2.1 bt183.2.2.1 bt183.2.2.2).bind fun bt188 => (some (bt188.1, bt188.2.1, bt188.2.2.1, bt188.2.2.2.1, bt188.2.2.2.2.1)))) = some (r1, r2, r3, r4, r5) := h
 clear h
 replace H := Option.bind_eq_some_iff.mp H
 obtain ⟨⟨t183, t184, t185, t186⟩, A20, H⟩ := H
 replace H : ((spec_l4DrawSuper.f k t183 t184 t185 t186).bind fun bt188 => (some (bt188.1, bt188.2.1, bt188.2.2.1, bt188.2.2.2.1, bt188.2.2.2.2.1))) = some (r1, r2, r3, r4, r5) := H
 have A2 := Aside0.mk A20
 clear A20
 replace H := Option.bind_eq_some_iff.mp H
 obtain ⟨⟨t188, t189, t190, t191, t192, t193, t194, t195⟩, A30, H⟩ := H
 replace H : (some (t188, t189, t190, t191, t192)) = some (r1, r2, r3, r4, r5) := H
 have A3 := Aside0.mk A30
 clear A30
 simp only [Option.some.injEq, Prod.mk.injEq] at H
 obtain ⟨rfl, rfl, rfl, rfl, rfl⟩ := H
 go_enter Try.func25, Try.ntmps25
 go_wp2_with (first | ((with_reducible refine zu (N := 2) rfl ?_); refine zy ?hg (N := 2) ?hd (cs := #[.int .i64 0, .int .i64 0, .int .i64 0, .int .i64 0, .int .i64 0]) (t := 52) ?hr ?_; (case hd => rfl); (case hg => rfl); (case hr => first | (go_simp; done) | (go_simp; rfl)); intro zA hg w4 hbox hb; have n0_ := Aside0.mk (zl (by repeat (first | (with_reducible first | exact HB.out | apply zg | apply zd | apply zh) | exact HB.out)) hb); have n1_ := Aside0.mk (hbox); have n2_ := Aside0.mk ((by rw [hg]; exact (zk (by repeat (first | (with_reducible first | exact HB.out | apply zg | apply zd | apply zh) | exact HB.out))) : w.heap.size ≤ zA)); have n3_ := Aside0.mk ((by rw [hg]; exact (zk (by repeat (first | (with_reducible first | exact HB.out | apply zg | apply zd | apply zh) | exact HB.out))) : w.heap.size ≤ zA)); clear HB; have HB := n0_; have zz := n1_; have GW182 := n2_; have zD := n3_; clear n0_ n1_ n2_ n3_; clear hb hbox hg) | ((with_reducible refine zo (f := 34) rfl ?_); refine goesL_ (some 4) rfl rfl Try.func34 (by kernel_rfl) rfl #[.slice A0 l0.length c0] rfl (by (try simp only [List.map_toArray, List.map_cons, List.map_nil]); first | done | rfl | (simp only [List.length_drop, List.length_take]; rfl)) ?_; (with_reducible refine (spec_l1Source.calls k _ _ l0 t183 t184 t185 t186 w _ ?side1 ?side2 ?side3 A2.out).mono ?_); (case side1 => repeat (first | (with_reducible first | exact HB.out | apply zg | apply zd | apply zh | refine zj ?_ zD.out) | exact HB.out)); (case side2 => exact HR0.out); (case side3 => exact HC0.out); rintro e w5 ⟨g187, rfl, hi, hb, hb2⟩; refine ⟨_, rfl, ?_⟩; have n0_ := Aside0.mk (zr (g := zA) (o := .cells #[.int .i64 0, .int .i64 0, .int .i64 0, .int .i64 0, .int .i64 0] 52 (0, 0)) (by (with_reducible repeat (first | refine zf ?_ _ | refine zi ?_ | refine ze ?_ _)); exact zz.out) hb2); have n1_ := Aside0.mk (hb); have n2_ := Aside0.mk (hi); have n3_ := Aside0.mk (IsX93.ne_blk hi (zr (g := zA) (o := .cells #[.int .i64 0, .int .i64 0, .int .i64 0, .int .i64 0, .int .i64 0] 52 (0, 0)) (by (with_reducible repeat (first | refine zf ?_ _ | refine zi ?_ | refine ze ?_ _)); exact zz.out) hb2) (by decide)); have n4_ := Aside0.mk (Ne.symm (IsX93.ne_blk hi (zr (g := zA) (o := .cells #[.int .i64 0, .int .i64 0, .int .i64 0, .int .i64 0, .int .i64 0] 52 (0, 0)) (by (with_reducible repeat (first | refine zf ?_ _ | refine zi ?_ | refine ze ?_ _)); exact zz.out) hb2) (by decide))); clear zz; clear HB; have zz := n0_; have HB := n1_; have HI187 := n2_; have zB := n3_; have zC := n4_; clear n0_ n1_ n2_ n3_ n4_; (try clear hb); (try clear hb2); (try clear hk); (try clear hi)) | ((with_reducible refine zo (f := 51) rfl ?_); refine goesL_ (some 5) rfl rfl Try.func51 (by kernel_rfl) rfl #[.pointer (some ⟨g187, 0, none⟩)] rfl (by (try simp only [List.map_toArray, List.map_cons, List.map_nil]); first | done | rfl | (simp only [List.length_drop, List.length_take]; rfl)) ?_; (with_reducible refine (spec_l4DrawSuper.callsX k g187 t183 t184 t185 t186 t188 t189 t190 t191 t192 t193 t194 t195 w _ ?side1 ?side2 A3.out).mono ?_); (case side1 => repeat (first | (with_reducible first | exact HI187.out | apply IsX93.alloc | apply IsX93.drewN | apply IsX93.drew | apply IsX93.set_1 | apply IsX93.set_2 | apply IsX93.set_3 | refine IsX93.far ?_ zB.out _) | exact HI187.out)); (case side2 => repeat (first | (with_reducible first | exact HB.out | apply zg | apply zd | apply zh | refine zj ?_ (IsX93.ge HI187.out) | refine zj ?_ zD.out) | exact HB.out)); rintro e w6 ⟨rfl, hi, hb, hk⟩; refine ⟨_, rfl, ?_⟩; have n0_ := Aside0.mk (KeepBut.blk hk (g' := zA) (o := .cells #[.int .i64 0, .int .i64 0, .int .i64 0, .int .i64 0, .int .i64 0] 52 (0, 0)) (by (with_reducible repeat (first | refine zf ?_ _ | refine zi ?_ | refine ze ?_ _)); exact zz.out) zC.out (by simp)); have n1_ := Aside0.mk (hb); have n2_ := Aside0.mk (hi); clear zz; clear HB; clear HI187; have zz := n0_; have HB := n1_; have HI187 := n2_; clear n0_ n1_ n2_; (try clear hb); (try clear hb2); (try clear hk); (try clear hi); have zO := zC.out; have zP := zB.out; have zE : w6.cell? ⟨zA, 0, none⟩ = some (.int .i64 0) := (zc zz.out 0).trans rfl; have zF : w6.cell? ⟨zA, 1, none⟩ = some (.int .i64 0) := (zc zz.out 1).trans rfl; have zG : w6.cell? ⟨zA, 2, none⟩ = some (.int .i64 0) := (zc zz.out 2).trans rfl; have zH : w6.cell? ⟨zA, 3, none⟩ = some (.int .i64 0) := (zc zz.out 3).trans rfl; have zI : w6.cell? ⟨zA, 4, none⟩ = some (.int .i64 0) := (zc zz.out 4).trans rfl; have zJ := zb zz.out 0; have zK := zb zz.out 1; have zL := zb zz.out 2; have zM := zb zz.out 3; have zN := zb zz.out 4))
 refine bodyPost_ret (results_cell_row rfl _ _ zA 52 #[.int .i64 t188, .int .i64 t189, .int .i64 t190, .int .i64 t191, .int .i64 t192] (0, 0) _ rfl (by (with_reducible repeat (first | refine zf ?_ _ | refine zi ?_ | refine ze ?_ _)); refine zn (cs := #[.int .i64 t188, .int .i64 t189, .int .i64 t190, .int .i64 t191, .int .i64 0]) ?_ 4 _ rfl; (with_reducible repeat (first | refine zf ?_ _ | refine zi ?_ | refine ze ?_ _)); refine zn (cs := #[.int .i64 t188, .int .i64 t189, .int .i64 t190, .int .i64 0, .int .i64 0]) ?_ 3 _ rfl; (with_reducible repeat (first | refine zf ?_ _ | refine zi ?_ | refine ze ?_ _)); refine zn (cs := #[.int .i64 t188, .int .i64 t189, .int .i64 0, .int .i64 0, .int .i64 0]) ?_ 2 _ rfl; (with_reducible repeat (first | refine zf ?_ _ | refine zi ?_ | refine ze ?_ _)); refine zn (cs := #[.int .i64 t188, .int .i64 0, .int .i64 0, .int .i64 0, .int .i64 0]) ?_ 1 _ rfl; (with_reducible repeat (first | refine zf ?_ _ | refine zi ?_ | refine ze ?_ _)); refine zn (cs := #[.int .i64 0, .int .i64 0, .int .i64 0, .int .i64 0, .int .i64 0]) ?_ 0 _ rfl; (with_reducible repeat (first | refine zf ?_ _ | refine zi ?_ | refine ze ?_ _)); exact zz.out) Try.underlying52 rfl (by kernel_rfl)) rfl ?_
 exact ⟨by first | rfl | (simp [errW_none, errW_some] <;> rfl) | (simp [*, errW_none, errW_some] <;> rfl), by repeat (first | (with_reducible first | exact HB.out | apply zg | apply zd | apply zh | refine zj ?_ (IsX93.ge HI187.out) | refine zj ?_ zD.out) | exact HB.out)⟩

def impl_EncodeSuper.f (k : Nat) (a0_0 : Int) (a0_1 : Int) (a0_2 : Int) (a0_3 : Int) (a0_4 : Int) : Option (List Int) := (impl_Super_valid.f a0_0 a0_1 a0_2 a0_3 a0_4).bind fun t197 => (if t197 = true then ((impl_Super_block.f k a0_0 a0_1 a0_2 a0_3 a0_4).bind fun t198 => (some t198)) else (some ([] : List Int)))
theorem impl_EncodeSuper.mono : ∀ a0 a1 a2 a3 a4 k, LeO (impl_EncodeSuper.f k a0 a1 a2 a3 a4) (impl_EncodeSuper.f (k + 1) a0 a1 a2 a3 a4) := by
 intro a0 a1 a2 a3 a4 k
 unfold impl_EncodeSuper.f
 repeat' first
   | (with_reducible exact impl_Super_block.mono _ _ _ _ _ _)
   | (with_reducible exact LeO.refl _)
   | (with_reducible exact LeO.none _)
   | (with_reducible refine LeO.ite ?_ ?_)
   | (with_reducible refine LeO.bind ?_ (fun _ => ?_))
   | exact impl_Super_block.mono _ _ _ _ _ _
   | exact LeO.none _
   | refine LeO.ite ?_ ?_
   | refine LeO.bind ?_ (fun _ => ?_)
set_option maxHeartbeats 8000000 in
set_option maxRecDepth 100000 in
theorem impl_EncodeSuper.calls (k : Nat) (a0_0 : Int) (a0_1 : Int) (a0_2 : Int) (a0_3 : Int) (a0_4 : Int) (r : List Int) (w : World) (h : impl_EncodeSuper.f k a0_0 a0_1 a0_2 a0_3 a0_4 = some r) :
  Calls Try.prog 26 #[.agg #[.int .i64 a0_0, .int .i64 a0_1, .int .i64 a0_2, .int .i64 a0_3, .int .i64 a0_4]] w fun e w' => ∃ v0_ : Value, e = .returned (v0_) ∧ Kd.R (Kd.int .u8) 76 w' w.heap.size (fun _ => True) v0_ r ∧ Below w.heap.size w w' := by
 have hu52 := Try.underlying52
 have HB := Aside0.mk (Below.refl w.heap.size w)
 have H : ((impl_Super_valid.f a0_0 a0_1 a0_2 a0_3 a0_4).bind fun t197 => (if t197 = true then ((impl_Super_block.f k a0_0 a0_1 a0_2 a0_3 a0_4).bind fun t198 => (some t198)) else (some ([] : List Int)))) = some r := h
 clear h
 replace H := Option.bind_eq_some_iff.mp H
 obtain ⟨t197, A20, H⟩ := H
 replace H : (if t197 = true then ((impl_Super_block.f k a0_0 a0_1 a0_2 a0_3 a0_4).bind fun t198 => (some t198)) else (some ([] : List Int))) = some r := H
 have A2 := Aside0.mk A20
 clear A20
 by_cases c3 : t197 = true
 ·subst c3
  have H1 : ((impl_Super_block.f k a0_0 a0_1 a0_2 a0_3 a0_4).bind fun t198 => (some t198)) = some r := by rw [if_pos rfl] at H; exact H
  clear H
  have H := H1
  clear H1
  replace H := Option.bind_eq_some_iff.mp H
  obtain ⟨t198, A40, H⟩ := H
  replace H : (some t198) = some r := H
  have A4 := Aside0.mk A40
  clear A40
  obtain rfl := Option.some.inj H
  go_enter Try.func26, Try.ntmps26
  go_wp2_with (first | ((with_reducible refine zu (N := 1) rfl ?_); refine zy ?hg (N := 1) ?hd (cs := #[.int .i64 a0_0, .int .i64 a0_1, .int .i64 a0_2, .int .i64 a0_3, .int .i64 a0_4]) (t := 52) ?hr ?_; (case hd => rfl); (case hg => rfl); (case hr => first | (go_simp; done) | (go_simp; rfl)); intro zA hg w5 hbox hb; have n0_ := Aside0.mk (zl (by repeat (first | (with_reducible first | exact HB.out | apply zg | apply zd | apply zh) | exact HB.out)) hb); have n1_ := Aside0.mk (hbox); have n2_ := Aside0.mk ((by rw [hg]; exact (zk (by repeat (first | (with_reducible first | exact HB.out | apply zg | apply zd | apply zh) | exact HB.out))) : w.heap.size ≤ zA)); have n3_ := Aside0.mk ((by rw [hg]; exact (zk (by repeat (first | (with_reducible first | exact HB.out | apply zg | apply zd | apply zh) | exact HB.out))) : w.heap.size ≤ zA)); clear HB; have HB := n0_; have zz := n1_; have GW196 := n2_; have zB := n3_; clear n0_ n1_ n2_ n3_; clear hb hbox hg; have zQ : w5.cell? ⟨zA, 0, none⟩ = some (.int .i64 a0_0) := (zc zz.out 0).trans rfl; have zR : w5.cell? ⟨zA, 1, none⟩ = some (.int .i64 a0_1) := (zc zz.out 1).trans rfl; have zS : w5.cell? ⟨zA, 2, none⟩ = some (.int .i64 a0_2) := (zc zz.out 2).trans rfl; have zT : w5.cell? ⟨zA, 3, none⟩ = some (.int .i64 a0_3) := (zc zz.out 3).trans rfl; have zU : w5.cell? ⟨zA, 4, none⟩ = some (.int .i64 a0_4) := (zc zz.out 4).trans rfl; have zV := zb zz.out 0; have zW := zb zz.out 1; have zX := zb zz.out 2; have zY := zb zz.out 3; have zZ := zb zz.out 4) | ((with_reducible refine zo (f := 52) rfl ?_); refine goesL_ (some 5) rfl rfl Try.func52 (by kernel_rfl) rfl #[.agg #[.int .i64 a0_0, .int .i64 a0_1, .int .i64 a0_2, .int .i64 a0_3, .int .i64 a0_4]] rfl (by (try simp only [List.map_toArray, List.map_cons, List.map_nil]); first | done | rfl | (simp only [List.length_drop, List.length_take]; rfl)) ?_; (with_reducible refine (impl_Super_valid.calls a0_0 a0_1 a0_2 a0_3 a0_4 true _ A2.out).mono ?_); rintro e w7 ⟨rfl, hb⟩; refine ⟨_, rfl, ?_⟩; have n0_ := Aside0.mk (zr (g := zA) (o := .cells #[.int .i64 a0_0, .int .i64 a0_1, .int .i64 a0_2, .int .i64 a0_3, .int .i64 a0_4] 52 (0, 0)) (by (with_reducible repeat (first | refine zf ?_ _ | refine zi ?_ | refine ze ?_ _)); exact zz.out) hb); have n1_ := Aside0.mk (zl (by repeat (first | (with_reducible first | exact HB.out | apply zg | apply zd | apply zh | refine zj ?_ zB.out) | exact HB.out)) hb); clear zz; clear HB; have zz := n0_; have HB := n1_; clear n0_ n1_; (try clear hb); (try clear hb2); (try clear hk); (try clear hi); have zab : w7.cell? ⟨zA, 0, none⟩ = some (.int .i64 a0_0) := (zc zz.out 0).trans rfl; have zbb : w7.cell? ⟨zA, 1, none⟩ = some (.int .i64 a0_1) := (zc zz.out 1).trans rfl; have zcb : w7.cell? ⟨zA, 2, none⟩ = some (.int .i64 a0_2) := (zc zz.out 2).trans rfl; have zdb : w7.cell? ⟨zA, 3, none⟩ = some (.int .i64 a0_3) := (zc zz.out 3).trans rfl; have zeb : w7.cell? ⟨zA, 4, none⟩ = some (.int .i64 a0_4) := (zc zz.out 4).trans rfl; have zfb := zb zz.out 0; have zgb := zb zz.out 1; have zhb := zb zz.out 2; have zib := zb zz.out 3; have zjb := zb zz.out 4) | ((with_reducible refine zo (f := 53) rfl ?_); refine goesL_ (some 8) rfl rfl Try.func53 (by kernel_rfl) rfl #[.agg #[.int .i64 a0_0, .int .i64 a0_1, .int .i64 a0_2, .int .i64 a0_3, .int .i64 a0_4]] rfl (by (try simp only [List.map_toArray, List.map_cons, List.map_nil]); first | done | rfl | (simp only [List.length_drop, List.length_take]; rfl)) ?_; (with_reducible refine (impl_Super_block.calls k a0_0 a0_1 a0_2 a0_3 a0_4 t198 _ A4.out).mono ?_); rintro e w9 ⟨rfl, hb⟩; refine ⟨_, rfl, ?_⟩; have n1_ := Aside0.mk (zr (g := zA) (o := .cells #[.int .i64 a0_0, .int .i64 a0_1, .int .i64 a0_2, .int .i64 a0_3, .int .i64 a0_4] 52 (0, 0)) (by (with_reducible repeat (first | refine zf ?_ _ | refine zi ?_ | refine ze ?_ _)); exact zz.out) hb); have n2_ := Aside0.mk (zl (by repeat (first | (with_reducible first | exact HB.out | apply zg | apply zd | apply zh | refine zj ?_ zB.out) | exact HB.out)) hb); clear zz; clear HB; have zz := n1_; have HB := n2_; clear n1_ n2_; (try clear hb); (try clear hb2); (try clear hk); (try clear hi); skip) | ((with_reducible refine zu (N := 3) rfl ?_); refine Go.Proofs.YtejecjjimggjeaaH.alloc_arr rfl (t := 76) rfl (N := 3) rfl (zs := (Array.replicate 64 (.int .u8 0))) (n := 64) (by kernel_rfl) ?_; intro zC hg w998 hbox hb _; have n0_ := Aside0.mk (zl HB.out hb); have zE := Aside0.mk hbox; have zD := Aside0.mk ((by rw [hg]; exact zk HB.out) : w.heap.size ≤ zC); clear HB; clear zz; have HB := n0_; clear n0_; clear hb hbox hg; have HLEN := Aside0.mk (Go.Proofs.YtejecjjimggjeaaH.guard_len A4.out).2) | (refine Go.Proofs.YtejecjjimggjeaaH.store_arr rfl (t := 76) rfl rfl rfl rfl zE.out (by simp only [List.size_toArray, List.length_map, HLEN.out]; kernel_rfl) (by simp [HLEN.out]) (by apply all_oneCell_toArray; intro v_ hv_; obtain ⟨x_, _, rfl⟩ := List.mem_map.mp hv_; rfl) ?_; intro w996 hA996 hg996; have HB2 := Aside0.mk (pw_below_grown HB.out (some zC) HB.out.size hg996 (fun k_ hk_ => by injection hk_ with hk_; exact hk_ ▸ zD.out)); have zF := Aside0.mk (show Kd.R (Kd.int .u8) 76 w996 w.heap.size (fun _ => True) (.slice (some ⟨zC, 0, none⟩) 64 64) t198 from by have h_ := Go.Proofs.YtejecjjimggjeaaH.R_of_arr (Value.int .u8) (fun _ => rfl) (ok := fun _ => True) hA996 zD.out trivial (by rw [HLEN.out]; omega) (by rw [HLEN.out]; omega); rw [HLEN.out] at h_; exact h_); clear HB; have HB := HB2; clear HB2) | (refine Go.Proofs.YtejecjjimggjeaaH.slice_arr rfl (t := 76) (e := 5) (n := 64) rfl (N := 9) rfl rfl Try.underlying76 (by kernel_rfl) ?_))
  go_ret
  exact ⟨_, by first | rfl | (simp [errW_none, errW_some] <;> rfl) | (simp [*, errW_none, errW_some] <;> rfl), by (with_reducible repeat (first | apply Kd.R_alloc | apply Kd.R_drewN | apply Kd.R_drew)); exact zF.out, by repeat (first | (with_reducible first | exact HB.out | apply zg | apply zd | apply zh | refine zj ?_ zB.out) | exact HB.out)⟩
 ·replace c3 := Bool.eq_false_iff.mpr c3
  subst c3
  have H1 : (some ([] : List Int)) = some r := by rw [if_neg (show ¬ (false = true) by decide)] at H; exact H
  clear H
  have H := H1
  clear H1
  obtain rfl := Option.some.inj H
  go_enter Try.func26, Try.ntmps26
  go_wp2_with (first | ((with_reducible refine zu (N := 1) rfl ?_); refine zy ?hg (N := 1) ?hd (cs := #[.int .i64 a0_0, .int .i64 a0_1, .int .i64 a0_2, .int .i64 a0_3, .int .i64 a0_4]) (t := 52) ?hr ?_; (case hd => rfl); (case hg => rfl); (case hr => first | (go_simp; done) | (go_simp; rfl)); intro zA hg w10 hbox hb; have n0_ := Aside0.mk (zl (by repeat (first | (with_reducible first | exact HB.out | apply zg | apply zd | apply zh) | exact HB.out)) hb); have n1_ := Aside0.mk (hbox); have n2_ := Aside0.mk ((by rw [hg]; exact (zk (by repeat (first | (with_reducible first | exact HB.out | apply zg | apply zd | apply zh) | exact HB.out))) : w.heap.size ≤ zA)); have n3_ := Aside0.mk ((by rw [hg]; exact (zk (by repeat (first | (with_reducible first | exact HB.out | apply zg | apply zd | apply zh) | exact HB.out))) : w.heap.size ≤ zA)); clear HB; have HB := n0_; have zz := n1_; have GW196 := n2_; have zB := n3_; clear n0_ n1_ n2_ n3_; clear hb hbox hg; have zG : w10.cell? ⟨zA, 0, none⟩ = some (.int .i64 a0_0) := (zc zz.out 0).trans rfl; have zH : w10.cell? ⟨zA, 1, none⟩ = some (.int .i64 a0_1) := (zc zz.out 1).trans rfl; have zI : w10.cell? ⟨zA, 2, none⟩ = some (.int .i64 a0_2) := (zc zz.out 2).trans rfl; have zJ : w10.cell? ⟨zA, 3, none⟩ = some (.int .i64 a0_3) := (zc zz.out 3).trans rfl; have zK : w10.cell? ⟨zA, 4, none⟩ = some (.int .i64 a0_4) := (zc zz.out 4).trans rfl; have zL := zb zz.out 0; have zM := zb zz.out 1; have zN := zb zz.out 2; have zO := zb zz.out 3; have zP := zb zz.out 4) | ((with_reducible refine zo (f := 52) rfl ?_); refine goesL_ (some 5) rfl rfl Try.func52 (by kernel_rfl) rfl #[.agg #[.int .i64 a0_0, .int .i64 a0_1, .int .i64 a0_2, .int .i64 a0_3, .int .i64 a0_4]] rfl (by (try simp only [List.map_toArray, List.map_cons, List.map_nil]); first | done | rfl | (simp only [List.length_drop, List.length_take]; rfl)) ?_; (with_reducible refine (impl_Super_valid.calls a0_0 a0_1 a0_2 a0_3 a0_4 false _ A2.out).mono ?_); rintro e w12 ⟨rfl, hb⟩; refine ⟨_, rfl, ?_⟩; have n0_ := Aside0.mk (zr (g := zA) (o := .cells #[.int .i64 a0_0, .int .i64 a0_1, .int .i64 a0_2, .int .i64 a0_3, .int .i64 a0_4] 52 (0, 0)) (by (with_reducible repeat (first | refine zf ?_ _ | refine zi ?_ | refine ze ?_ _)); exact zz.out) hb); have n1_ := Aside0.mk (zl (by repeat (first | (with_reducible first | exact HB.out | apply zg | apply zd | apply zh | refine zj ?_ zB.out) | exact HB.out)) hb); clear zz; clear HB; have zz := n0_; have HB := n1_; clear n0_ n1_; (try clear hb); (try clear hb2); (try clear hk); (try clear hi)))
  go_ret
  exact ⟨_, by first | rfl | (simp [errW_none, errW_some] <;> rfl) | (simp [*, errW_none, errW_some] <;> rfl), by first | exact Kd.R_nil _ _ _ _ _ | exact Kd.N_nil _ _ _ _ _ | exact Kd.V_nil _ _ _ _ _ | exact Kd.Q_nil _ _ _ _ _ | exact Kd.S_nil _ _ _ _ _, by repeat (first | (with_reducible first | exact HB.out | apply zg | apply zd | apply zh | refine zj ?_ zB.out) | exact HB.out)⟩

def spec_l3Stat.f (a0 : Int) : Option (Bool) := if a0 ≥ 0 then (some (decide (a0 ≤ 2147483647))) else (some false)
set_option maxHeartbeats 8000000 in
set_option maxRecDepth 100000 in
theorem spec_l3Stat.calls (a0 : Int) (r : Bool) (w : World) (h : spec_l3Stat.f a0 = some r) :
  Calls Try.prog 77 #[.int .i64 a0] w fun e w' => e = .returned (.bool r) ∧ Drawn0 w w' := by
 have H : (if a0 ≥ 0 then (some (decide (a0 ≤ 2147483647))) else (some false)) = some r := h
 clear h
 by_cases c2 : a0 ≥ 0
 ·rw [if_pos c2] at H
  have c2b0 : decide (0 ≤ a0) = true := decide_eq_true c2
  clear c2
  obtain rfl := Option.some.inj H
  go_enter Try.func77, Try.ntmps77
  go_wp2
  go_ret
  exact ⟨by first | rfl | (simp; done) | (simp [*]; done), by repeat (first | exact Drawn0.refl _ | apply Drawn0.step)⟩
 ·rw [if_neg c2] at H
  have c2b0 : decide (0 ≤ a0) = false := decide_eq_false c2
  clear c2
  obtain rfl := Option.some.inj H
  go_enter Try.func77, Try.ntmps77
  go_wp2
  go_ret
  exact ⟨by first | rfl | (simp; done) | (simp [*]; done), by repeat (first | exact Drawn0.refl _ | apply Drawn0.step)⟩

def spec_l4ValidSuper.f (a0_0 : Int) (a0_1 : Int) (a0_2 : Int) (a0_3 : Int) (a0_4 : Int) : Option (Bool) := if a0_0 ≥ 1 then (if a0_1 ≥ 0 then (if a0_1 ≤ 1 then ((spec_l3Stat.f a0_2).bind fun t202 => (if t202 = true then (if a0_3 ≥ 0 then (if a0_3 ≤ 4096 then (if a0_4 ≥ 0 then (some (decide (a0_4 ≤ 4294967295))) else (some false)) else (some false)) else (some false)) else (some false))) else (some false)) else (some false)) else (some false)
set_option maxHeartbeats 8000000 in
set_option maxRecDepth 100000 in
theorem spec_l4ValidSuper.calls (a0_0 : Int) (a0_1 : Int) (a0_2 : Int) (a0_3 : Int) (a0_4 : Int) (r : Bool) (w : World) (h : spec_l4ValidSuper.f a0_0 a0_1 a0_2 a0_3 a0_4 = some r) :
  Calls Try.prog 54 #[.agg #[.int .i64 a0_0, .int .i64 a0_1, .int .i64 a0_2, .int .i64 a0_3, .int .i64 a0_4]] w fun e w' => e = .returned (.bool r) ∧ Below w.heap.size w w' := by
 have hu52 := Try.underlying52
 have HB := Aside0.mk (Below.refl w.heap.size w)
 have H : (if a0_0 ≥ 1 then (if a0_1 ≥ 0 then (if a0_1 ≤ 1 then ((spec_l3Stat.f a0_2).bind fun t202 => (if t202 = true then (if a0_3 ≥ 0 then (if a0_3 ≤ 4096 then (if a0_4 ≥ 0 then (some (decide (a0_4 ≤ 4294967295))) else (some false)) else (some false)) else (some false)) else (some false))) else (some false)) else (some false)) else (some false)) = some r := h
 clear h
 by_cases c2 : a0_0 ≥ 1
 ·rw [if_pos c2] at H
  have c2b0 : decide (1 ≤ a0_0) = true := decide_eq_true c2
  clear c2
  by_cases c3 : a0_1 ≥ 0
  ·rw [if_pos c3] at H
   have c3b0 : decide (0 ≤ a0_1) = true := decide_eq_true c3
   clear c3
   by_cases c4 : a0_1 ≤ 1
   ·rw [if_pos c4] at H
    have c4b0 : decide (a0_1 ≤ 1) = true := decide_eq_true c4
    clear c4
    replace H := Option.bind_eq_some_iff.mp H
    obtain ⟨t202, A50, H⟩ := H
    replace H : (if t202 = true then (if a0_3 ≥ 0 then (if a0_3 ≤ 4096 then (if a0_4 ≥ 0 then (some (decide (a0_4 ≤ 4294967295))) else (some false)) else (some false)) else (some false)) else (some false)) = some r := H
    have A5 := Aside0.mk A50
    clear A50
    by_cases c6 : t202 = true
    ·subst c6
     have H1 : (if a0_3 ≥ 0 then (if a0_3 ≤ 4096 then (if a0_4 ≥ 0 then (some (decide (a0_4 ≤ 4294967295))) else (some false)) else (some false)) else (some false)) = some r := by rw [if_pos rfl] at H; exact H
     clear H
     have H := H1
     clear H1
     by_cases c7 : a0_3 ≥ 0
     ·rw [if_pos c7] at H
      have c7b0 : decide (0 ≤ a0_3) = true := decide_eq_true c7
      clear c7
      by_cases c8 : a0_3 ≤ 4096
      ·rw [if_pos c8] at H
       have c8b0 : decide (a0_3 ≤ 4096) = true := decide_eq_true c8
       clear c8
       by_cases c9 : a0_4 ≥ 0
       ·rw [if_pos c9] at H
        have c9b0 : decide (0 ≤ a0_4) = true := decide_eq_true c9
        clear c9
        obtain rfl := Option.some.inj H
        go_enter Try.func54, Try.ntmps54
        go_wp2_with (first | ((with_reducible refine zu (N := 1) rfl ?_); refine zy ?hg (N := 1) ?hd (cs := #[.int .i64 a0_0, .int .i64 a0_1, .int .i64 a0_2, .int .i64 a0_3, .int .i64 a0_4]) (t := 52) ?hr ?_; (case hd => rfl); (case hg => rfl); (case hr => first | (go_simp; done) | (go_simp; rfl)); intro zA hg w10 hbox hb; have n0_ := Aside0.mk (zl (by repeat (first | (with_reducible first | exact HB.out | apply zg | apply zd | apply zh) | exact HB.out)) hb); have n1_ := Aside0.mk (hbox); have n2_ := Aside0.mk ((by rw [hg]; exact (zk (by repeat (first | (with_reducible first | exact HB.out | apply zg | apply zd | apply zh) | exact HB.out))) : w.heap.size ≤ zA)); have n3_ := Aside0.mk ((by rw [hg]; exact (zk (by repeat (first | (with_reducible first | exact HB.out | apply zg | apply zd | apply zh) | exact HB.out))) : w.heap.size ≤ zA)); clear HB; have HB := n0_; have zz := n1_; have GW201 := n2_; have zB := n3_; clear n0_ n1_ n2_ n3_; clear hb hbox hg; have zC : w10.cell? ⟨zA, 0, none⟩ = some (.int .i64 a0_0) := (zc zz.out 0).trans rfl; have zD : w10.cell? ⟨zA, 1, none⟩ = some (.int .i64 a0_1) := (zc zz.out 1).trans rfl; have zE : w10.cell? ⟨zA, 2, none⟩ = some (.int .i64 a0_2) := (zc zz.out 2).trans rfl; have zF : w10.cell? ⟨zA, 3, none⟩ = some (.int .i64 a0_3) := (zc zz.out 3).trans rfl; have zG : w10.cell? ⟨zA, 4, none⟩ = some (.int .i64 a0_4) := (zc zz.out 4).trans rfl; have zH := zb zz.out 0; have zI := zb zz.out 1; have zJ := zb zz.out 2; have zK := zb zz.out 3; have zL := zb zz.out 4) | (go_at_call 77; (with_reducible refine (spec_l3Stat.calls a0_2 true _ A5.out).mono ?_); rintro e w' ⟨rfl, ⟨nd, rfl⟩⟩))
        go_ret
        exact ⟨by first | rfl | (simp [errW_none, errW_some] <;> rfl) | (simp [*, errW_none, errW_some] <;> rfl), by repeat (first | (with_reducible first | exact HB.out | apply zg | apply zd | apply zh | refine zj ?_ zB.out) | exact HB.out)⟩
       ·rw [if_neg c9] at H
        have c9b0 : decide (0 ≤ a0_4) = false := decide_eq_false c9
        clear c9
        obtain rfl := Option.some.inj H
        go_enter Try.func54, Try.ntmps54
        go_wp2_with (first | ((with_reducible refine zu (N := 1) rfl ?_); refine zy ?hg (N := 1) ?hd (cs := #[.int .i64 a0_0, .int .i64 a0_1, .int .i64 a0_2, .int .i64 a0_3, .int .i64 a0_4]) (t := 52) ?hr ?_; (case hd => rfl); (case hg => rfl); (case hr => first | (go_simp; done) | (go_simp; rfl)); intro zA hg w12 hbox hb; have n0_ := Aside0.mk (zl (by repeat (first | (with_reducible first | exact HB.out | apply zg | apply zd | apply zh) | exact HB.out)) hb); have n1_ := Aside0.mk (hbox); have n2_ := Aside0.mk ((by rw [hg]; exact (zk (by repeat (first | (with_reducible first | exact HB.out | apply zg | apply zd | apply zh) | exact HB.out))) : w.heap.size ≤ zA)); have n3_ := Aside0.mk ((by rw [hg]; exact (zk (by repeat (first | (with_reducible first | exact HB.out | apply zg | apply zd | apply zh) | exact HB.out))) : w.heap.size ≤ zA)); clear HB; have HB := n0_; have zz := n1_; have GW201 := n2_; have zB := n3_; clear n0_ n1_ n2_ n3_; clear hb hbox hg; have zM : w12.cell? ⟨zA, 0, none⟩ = some (.int .i64 a0_0) := (zc zz.out 0).trans rfl; have zN : w12.cell? ⟨zA, 1, none⟩ = some (.int .i64 a0_1) := (zc zz.out 1).trans rfl; have zO : w12.cell? ⟨zA, 2, none⟩ = some (.int .i64 a0_2) := (zc zz.out 2).trans rfl; have zP : w12.cell? ⟨zA, 3, none⟩ = some (.int .i64 a0_3) := (zc zz.out 3).trans rfl; have zQ : w12.cell? ⟨zA, 4, none⟩ = some (.int .i64 a0_4) := (zc zz.out 4).trans rfl; have zR := zb zz.out 0; have zS := zb zz.out 1; have zT := zb zz.out 2; have zU := zb zz.out 3; have zV := zb zz.out 4) | (go_at_call 77; (with_reducible refine (spec_l3Stat.calls a0_2 true _ A5.out).mono ?_); rintro e w' ⟨rfl, ⟨nd, rfl⟩⟩))
        go_ret
        exact ⟨by first | rfl | (simp [errW_none, errW_some] <;> rfl) | (simp [*, errW_none, errW_some] <;> rfl), by repeat (first | (with_reducible first | exact HB.out | apply zg | apply zd | apply zh | refine zj ?_ zB.out) | exact HB.out)⟩
      ·rw [if_neg c8] at H
       have c8b0 : decide (a0_3 ≤ 4096) = false := decide_eq_false c8
       clear c8
       obtain rfl := Option.some.inj H
       go_enter Try.func54, Try.ntmps54
       go_wp2_with (first | ((with_reducible refine zu (N := 1) rfl ?_); refine zy ?hg (N := 1) ?hd (cs := #[.int .i64 a0_0, .int .i64 a0_1, .int .i64 a0_2, .int .i64 a0_3, .int .i64 a0_4]) (t := 52) ?hr ?_; (case hd => rfl); (case hg => rfl); (case hr => first | (go_simp; done) | (go_simp; rfl)); intro zA hg w14 hbox hb; have n0_ := Aside0.mk (zl (by repeat (first | (with_reducible first | exact HB.out | apply zg | apply zd | apply zh) | exact HB.out)) hb); have n1_ := Aside0.mk (hbox); have n2_ := Aside0.mk ((by rw [hg]; exact (zk (by repeat (first | (with_reducible first | exact HB.out | apply zg | apply zd | apply zh) | exact HB.out))) : w.heap.size ≤ zA)); have n3_ := Aside0.mk ((by rw [hg]; exact (zk (by repeat (first | (with_reducible first | exact HB.out | apply zg | apply zd | apply zh) | exact HB.out))) : w.heap.size ≤ zA)); clear HB; have HB := n0_; have zz := n1_; have GW201 := n2_; have zB := n3_; clear n0_ n1_ n2_ n3_; clear hb hbox hg; have zW : w14.cell? ⟨zA, 0, none⟩ = some (.int .i64 a0_0) := (zc zz.out 0).trans rfl; have zX : w14.cell? ⟨zA, 1, none⟩ = some (.int .i64 a0_1) := (zc zz.out 1).trans rfl; have zY : w14.cell? ⟨zA, 2, none⟩ = some (.int .i64 a0_2) := (zc zz.out 2).trans rfl; have zZ : w14.cell? ⟨zA, 3, none⟩ = some (.int .i64 a0_3) := (zc zz.out 3).trans rfl; have zab : w14.cell? ⟨zA, 4, none⟩ = some (.int .i64 a0_4) := (zc zz.out 4).trans rfl; have zbb := zb zz.out 0; have zcb := zb zz.out 1; have zdb := zb zz.out 2; have zeb := zb zz.out 3; have zfb := zb zz.out 4) | (go_at_call 77; (with_reducible refine (spec_l3Stat.calls a0_2 true _ A5.out).mono ?_); rintro e w' ⟨rfl, ⟨nd, rfl⟩⟩))
       go_ret
       exact ⟨by first | rfl | (simp [errW_none, errW_some] <;> rfl) | (simp [*, errW_none, errW_some] <;> rfl), by repeat (first | (with_reducible first | exact HB.out | apply zg | apply zd | apply zh | refine zj ?_ zB.out) | exact HB.out)⟩
     ·rw [if_neg c7] at H
      have c7b0 : decide (0 ≤ a0_3) = false := decide_eq_false c7
      clear c7
      obtain rfl := Option.some.inj H
      go_enter Try.func54, Try.ntmps54
      go_wp2_with (first | ((with_reducible refine zu (N := 1) rfl ?_); refine zy ?hg (N := 1) ?hd (cs := #[.int .i64 a0_0, .int .i64 a0_1, .int .i64 a0_2, .int .i64 a0_3, .int .i64 a0_4]) (t := 52) ?hr ?_; (case hd => rfl); (case hg => rfl); (case hr => first | (go_simp; done) | (go_simp; rfl)); intro zA hg w16 hbox hb; have n0_ := Aside0.mk (zl (by repeat (first | (with_reducible first | exact HB.out | apply zg | apply zd | apply zh) | exact HB.out)) hb); have n1_ := Aside0.mk (hbox); have n2_ := Aside0.mk ((by rw [hg]; exact (zk (by repeat (first | (with_reducible first | exact HB.out | apply zg | apply zd | apply zh) | exact HB.out))) : w.heap.size ≤ zA)); have n3_ := Aside0.mk ((by rw [hg]; exact (zk (by repeat (first | (with_reducible first | exact HB.out | apply zg | apply zd | apply zh) | exact HB.out))) : w.heap.size ≤ zA)); clear HB; have HB := n0_; have zz := n1_; have GW201 := n2_; have zB := n3_; clear n0_ n1_ n2_ n3_; clear hb hbox hg; have zgb : w16.cell? ⟨zA, 0, none⟩ = some (.int .i64 a0_0) := (zc zz.out 0).trans rfl; have zhb : w16.cell? ⟨zA, 1, none⟩ = some (.int .i64 a0_1) := (zc zz.out 1).trans rfl; have zib : w16.cell? ⟨zA, 2, none⟩ = some (.int .i64 a0_2) := (zc zz.out 2).trans rfl; have zjb : w16.cell? ⟨zA, 3, none⟩ = some (.int .i64 a0_3) := (zc zz.out 3).trans rfl; have zkb : w16.cell? ⟨zA, 4, none⟩ = some (.int .i64 a0_4) := (zc zz.out 4).trans rfl; have zlb := zb zz.out 0; have zmb := zb zz.out 1; have znb := zb zz.out 2; have zob := zb zz.out 3; have zpb := zb zz.out 4) | (go_at_call 77; (with_reducible refine (spec_l3Stat.calls a0_2 true _ A5.out).mono ?_); rintro e w' ⟨rfl, ⟨nd, rfl⟩⟩))
      go_ret
      exact ⟨by first | rfl | (simp [errW_none, errW_some] <;> rfl) | (simp [*, errW_none, errW_some] <;> rfl), by repeat (first | (with_reducible first | exact HB.out | apply zg | apply zd | apply zh | refine zj ?_ zB.out) | exact HB.out)⟩
    ·replace c6 := Bool.eq_false_iff.mpr c6
     subst c6
     have H1 : (some false) = some r := by rw [if_neg (show ¬ (false = true) by decide)] at H; exact H
     clear H
     have H := H1
     clear H1
     obtain rfl := Option.some.inj H
     go_enter Try.func54, Try.ntmps54
     go_wp2_with (first | ((with_reducible refine zu (N := 1) rfl ?_); refine zy ?hg (N := 1) ?hd (cs := #[.int .i64 a0_0, .int .i64 a0_1, .int .i64 a0_2, .int .i64 a0_3, .int .i64 a0_4]) (t := 52) ?hr ?_; (case hd => rfl); (case hg => rfl); (case hr => first | (go_simp; done) | (go_simp; rfl)); intro zA hg w18 hbox hb; have n0_ := Aside0.mk (zl (by repeat (first | (with_reducible first | exact HB.out | apply zg | apply zd | apply zh) | exact HB.out)) hb); have n1_ := Aside0.mk (hbox); have n2_ := Aside0.mk ((by rw [hg]; exact (zk (by repeat (first | (with_reducible first | exact HB.out | apply zg | apply zd | apply zh) | exact HB.out))) : w.heap.size ≤ zA)); have n3_ := Aside0.mk ((by rw [hg]; exact (zk (by repeat (first | (with_reducible first | exact HB.out | apply zg | apply zd | apply zh) | exact HB.out))) : w.heap.size ≤ zA)); clear HB; have HB := n0_; have zz := n1_; have GW201 := n2_; have zB := n3_; clear n0_ n1_ n2_ n3_; clear hb hbox hg; have zqb : w18.cell? ⟨zA, 0, none⟩ = some (.int .i64 a0_0) := (zc zz.out 0).trans rfl; have zrb : w18.cell? ⟨zA, 1, none⟩ = some (.int .i64 a0_1) := (zc zz.out 1).trans rfl; have zsb : w18.cell? ⟨zA, 2, none⟩ = some (.int .i64 a0_2) := (zc zz.out 2).trans rfl; have ztb : w18.cell? ⟨zA, 3, none⟩ = some (.int .i64 a0_3) := (zc zz.out 3).trans rfl; have zub : w18.cell? ⟨zA, 4, none⟩ = some (.int .i64 a0_4) := (zc zz.out 4).trans rfl; have zvb := zb zz.out 0; have zwb := zb zz.out 1; have zxb := zb zz.out 2; have zyb := zb zz.out 3; have zzb := zb zz.out 4) | (go_at_call 77; (with_reducible refine (spec_l3Stat.calls a0_2 false _ A5.out).mono ?_); rintro e w' ⟨rfl, ⟨nd, rfl⟩⟩))
     go_ret
     exact ⟨by first | rfl | (simp [errW_none, errW_some] <;> rfl) | (simp [*, errW_none, errW_some] <;> rfl), by repeat (first | (with_reducible first | exact HB.out | apply zg | apply zd | apply zh | refine zj ?_ zB.out) | exact HB.out)⟩
   ·rw [if_neg c4] at H
    have c4b0 : decide (a0_1 ≤ 1) = false := decide_eq_false c4
    clear c4
    obtain rfl := Option.some.inj H
    go_enter Try.func54, Try.ntmps54
    go_wp2_with (first | ((with_reducible refine zu (N := 1) rfl ?_); refine zy ?hg (N := 1) ?hd (cs := #[.int .i64 a0_0, .int .i64 a0_1, .int .i64 a0_2, .int .i64 a0_3, .int .i64 a0_4]) (t := 52) ?hr ?_; (case hd => rfl); (case hg => rfl); (case hr => first | (go_simp; done) | (go_simp; rfl)); intro zA hg w20 hbox hb; have n0_ := Aside0.mk (zl (by repeat (first | (with_reducible first | exact HB.out | apply zg | apply zd | apply zh) | exact HB.out)) hb); have n1_ := Aside0.mk (hbox); have n2_ := Aside0.mk ((by rw [hg]; exact (zk (by repeat (first | (with_reducible first | exact HB.out | apply zg | apply zd | apply zh) | exact HB.out))) : w.heap.size ≤ zA)); have n3_ := Aside0.mk ((by rw [hg]; exact (zk (by repeat (first | (with_reducible first | exact HB.out | apply zg | apply zd | apply zh) | exact HB.out))) : w.heap.size ≤ zA)); clear HB; have HB := n0_; have zz := n1_; have GW201 := n2_; have zB := n3_; clear n0_ n1_ n2_ n3_; clear hb hbox hg; have zAb : w20.cell? ⟨zA, 0, none⟩ = some (.int .i64 a0_0) := (zc zz.out 0).trans rfl; have zBb : w20.cell? ⟨zA, 1, none⟩ = some (.int .i64 a0_1) := (zc zz.out 1).trans rfl; have zCb : w20.cell? ⟨zA, 2, none⟩ = some (.int .i64 a0_2) := (zc zz.out 2).trans rfl; have zDb : w20.cell? ⟨zA, 3, none⟩ = some (.int .i64 a0_3) := (zc zz.out 3).trans rfl; have zEb : w20.cell? ⟨zA, 4, none⟩ = some (.int .i64 a0_4) := (zc zz.out 4).trans rfl; have zFb := zb zz.out 0; have zGb := zb zz.out 1; have zHb := zb zz.out 2; have zIb := zb zz.out 3; have zJb := zb zz.out 4))
    go_ret
    exact ⟨by first | rfl | (simp [errW_none, errW_some] <;> rfl) | (simp [*, errW_none, errW_some] <;> rfl), by repeat (first | (with_reducible first | exact HB.out | apply zg | apply zd | apply zh | refine zj ?_ zB.out) | exact HB.out)⟩
  ·rw [if_neg c3] at H
   have c3b0 : decide (0 ≤ a0_1) = false := decide_eq_false c3
   clear c3
   obtain rfl := Option.some.inj H
   go_enter Try.func54, Try.ntmps54
   go_wp2_with (first | ((with_reducible refine zu (N := 1) rfl ?_); refine zy ?hg (N := 1) ?hd (cs := #[.int .i64 a0_0, .int .i64 a0_1, .int .i64 a0_2, .int .i64 a0_3, .int .i64 a0_4]) (t := 52) ?hr ?_; (case hd => rfl); (case hg => rfl); (case hr => first | (go_simp; done) | (go_simp; rfl)); intro zA hg w22 hbox hb; have n0_ := Aside0.mk (zl (by repeat (first | (with_reducible first | exact HB.out | apply zg | apply zd | apply zh) | exact HB.out)) hb); have n1_ := Aside0.mk (hbox); have n2_ := Aside0.mk ((by rw [hg]; exact (zk (by repeat (first | (with_reducible first | exact HB.out | apply zg | apply zd | apply zh) | exact HB.out))) : w.heap.size ≤ zA)); have n3_ := Aside0.mk ((by rw [hg]; exact (zk (by repeat (first | (with_reducible first | exact HB.out | apply zg | apply zd | apply zh) | exact HB.out))) : w.heap.size ≤ zA)); clear HB; have HB := n0_; have zz := n1_; have GW201 := n2_; have zB := n3_; clear n0_ n1_ n2_ n3_; clear hb hbox hg; have zKb : w22.cell? ⟨zA, 0, none⟩ = some (.int .i64 a0_0) := (zc zz.out 0).trans rfl; have zLb : w22.cell? ⟨zA, 1, none⟩ = some (.int .i64 a0_1) := (zc zz.out 1).trans rfl; have zMb : w22.cell? ⟨zA, 2, none⟩ = some (.int .i64 a0_2) := (zc zz.out 2).trans rfl; have zNb : w22.cell? ⟨zA, 3, none⟩ = some (.int .i64 a0_3) := (zc zz.out 3).trans rfl; have zOb : w22.cell? ⟨zA, 4, none⟩ = some (.int .i64 a0_4) := (zc zz.out 4).trans rfl; have zPb := zb zz.out 0; have zQb := zb zz.out 1; have zRb := zb zz.out 2; have zSb := zb zz.out 3; have zTb := zb zz.out 4))
   go_ret
   exact ⟨by first | rfl | (simp [errW_none, errW_some] <;> rfl) | (simp [*, errW_none, errW_some] <;> rfl), by repeat (first | (with_reducible first | exact HB.out | apply zg | apply zd | apply zh | refine zj ?_ zB.out) | exact HB.out)⟩
 ·rw [if_neg c2] at H
  have c2b0 : decide (1 ≤ a0_0) = false := decide_eq_false c2
  clear c2
  obtain rfl := Option.some.inj H
  go_enter Try.func54, Try.ntmps54
  go_wp2_with (first | ((with_reducible refine zu (N := 1) rfl ?_); refine zy ?hg (N := 1) ?hd (cs := #[.int .i64 a0_0, .int .i64 a0_1, .int .i64 a0_2, .int .i64 a0_3, .int .i64 a0_4]) (t := 52) ?hr ?_; (case hd => rfl); (case hg => rfl); (case hr => first | (go_simp; done) | (go_simp; rfl)); intro zA hg w24 hbox hb; have n0_ := Aside0.mk (zl (by repeat (first | (with_reducible first | exact HB.out | apply zg | apply zd | apply zh) | exact HB.out)) hb); have n1_ := Aside0.mk (hbox); have n2_ := Aside0.mk ((by rw [hg]; exact (zk (by repeat (first | (with_reducible first | exact HB.out | apply zg | apply zd | apply zh) | exact HB.out))) : w.heap.size ≤ zA)); have n3_ := Aside0.mk ((by rw [hg]; exact (zk (by repeat (first | (with_reducible first | exact HB.out | apply zg | apply zd | apply zh) | exact HB.out))) : w.heap.size ≤ zA)); clear HB; have HB := n0_; have zz := n1_; have GW201 := n2_; have zB := n3_; clear n0_ n1_ n2_ n3_; clear hb hbox hg; have zUb : w24.cell? ⟨zA, 0, none⟩ = some (.int .i64 a0_0) := (zc zz.out 0).trans rfl; have zVb : w24.cell? ⟨zA, 1, none⟩ = some (.int .i64 a0_1) := (zc zz.out 1).trans rfl; have zWb : w24.cell? ⟨zA, 2, none⟩ = some (.int .i64 a0_2) := (zc zz.out 2).trans rfl; have zXb : w24.cell? ⟨zA, 3, none⟩ = some (.int .i64 a0_3) := (zc zz.out 3).trans rfl; have zYb : w24.cell? ⟨zA, 4, none⟩ = some (.int .i64 a0_4) := (zc zz.out 4).trans rfl; have zZb := zb zz.out 0; have zac := zb zz.out 1; have zbc := zb zz.out 2; have zcc := zb zz.out 3; have zdc := zb zz.out 4))
  go_ret
  exact ⟨by first | rfl | (simp [errW_none, errW_some] <;> rfl) | (simp [*, errW_none, errW_some] <;> rfl), by repeat (first | (with_reducible first | exact HB.out | apply zg | apply zd | apply zh | refine zj ?_ zB.out) | exact HB.out)⟩

end Go.Proofs.Ytejecjjimggjeaa.GFnTornSuper
