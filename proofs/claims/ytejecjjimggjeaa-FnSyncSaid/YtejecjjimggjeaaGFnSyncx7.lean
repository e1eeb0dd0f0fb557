/- Written by give.py, a program of this session, that runs the kit's print and lays contracts proved by hand beside it. -/
import Derived.Test.YtejecjjimggjeaaGFnSyncx0
import Derived.Test.YtejecjjimggjeaaGFnSyncx1
import Derived.Test.YtejecjjimggjeaaGFnSyncx6
namespace Go.Proofs.Ytejecjjimggjeaa.GFnSync
open Go.RowKit Go.Proofs.YtejecjjimggjeaaW.PrintWords Go.Proofs.YtejecjjimggjeaaW.PrintLast Go.Proofs.YtejecjjimggjeaaW.PrintMore
attribute [local go_sem] max2_int min2_int max_two min_two max_three min_three max_four min_four
attribute [local go_sem high] Go.Proofs.YtejecjjimggjeaaH.str_leq Go.Proofs.YtejecjjimggjeaaH.str_geq Go.Proofs.YtejecjjimggjeaaH.str_gtr   -- for this text's walks alone
set_option linter.unusedVariables false
set_option linter.unusedSimpArgs false

mutual
def spec_l1DrawDisk.j0 : Nat → Int → List Int → Int → Int → Int → List Int → List (S45) → Option (List Int × (List (S45)) × Int × Int × Int)
 | 0, _, _, _, _, _, _, _ => none
 | k + 1, x4, x1000, x1001, x1002, x1003, x261000, x261001 => if x4 = 1 then (spec_l1DrawDisk.j1 k x4 x1000 x1001 x1002 x1003 (([] : List Int)) x261001) else (spec_l1DrawDisk.j1 k x4 x1000 x1001 x1002 x1003 x261000 x261001)
def spec_l1DrawDisk.j1 : Nat → Int → List Int → Int → Int → Int → List Int → List (S45) → Option (List Int × (List (S45)) × Int × Int × Int)
 | 0, _, _, _, _, _, _, _ => none
 | k + 1, x4, x1000, x1001, x1002, x1003, x261000, x261001 => if x4 = 2 then ((spec_l1Next.f x1000 x1001 x1002 x1003 2).bind fun bt271 => (if 0 ≤ (wrap64 ((wrap64 (300 + bt271.1)) * 64)) then (if (wrap64 ((wrap64 (300 + bt271.1)) * 64) : Int).toNat ≤ 281474976710656 then (spec_l1DrawDisk.j2 k x4 x1000 bt271.2.1 bt271.2.2.1 bt271.2.2.2 (List.replicate (wrap64 ((wrap64 (300 + bt271.1)) * 64) : Int).toNat 0) x261001) else (none)) else (none))) else (spec_l1DrawDisk.j2 k x4 x1000 x1001 x1002 x1003 x261000 x261001)
def spec_l1DrawDisk.j2 : Nat → Int → List Int → Int → Int → Int → List Int → List (S45) → Option (List Int × (List (S45)) × Int × Int × Int)
 | 0, _, _, _, _, _, _, _ => none
 | k + 1, x4, x1000, x1001, x1002, x1003, x261000, x261001 => if x4 = 3 then ((spec_l1Next.f x1000 x1001 x1002 x1003 2).bind fun bt278 => ((spec_l1Next.f x1000 bt278.2.1 bt278.2.2.1 bt278.2.2.2 3).bind fun bt282 => (if 0 ≤ (wrap64 (63 + bt282.1)) then (if (wrap64 (63 + bt282.1) : Int).toNat ≤ 281474976710656 then (if x261001.length < 4398046511104 then (spec_l1DrawDisk.j3 k x4 x1000 bt282.2.1 bt282.2.2.1 bt282.2.2.2 x261000 (x261001 ++ [(⟨wrap64 (bt278.1 * 9), (List.replicate (wrap64 (63 + bt282.1) : Int).toNat 0)⟩ : S45)])) else (none)) else (none)) else (none)))) else (spec_l1DrawDisk.j3 k x4 x1000 x1001 x1002 x1003 x261000 x261001)
def spec_l1DrawDisk.j3 : Nat → Int → List Int → Int → Int → Int → List Int → List (S45) → Option (List Int × (List (S45)) × Int × Int × Int)
 | 0, _, _, _, _, _, _, _ => none
 | k + 1, x4, x1000, x1001, x1002, x1003, x261000, x261001 => if x4 = 4 then (if 64 ≤ 281474976710656 then (if x261001.length < 4398046511104 then (spec_l1DrawDisk.j4 k x4 x1000 x1001 x1002 x1003 x261000 (x261001 ++ [(⟨(-1), (List.replicate 64 0)⟩ : S45)])) else (none)) else (none)) else (spec_l1DrawDisk.j4 k x4 x1000 x1001 x1002 x1003 x261000 x261001)
def spec_l1DrawDisk.j4 : Nat → Int → List Int → Int → Int → Int → List Int → List (S45) → Option (List Int × (List (S45)) × Int × Int × Int)
 | 0, _, _, _, _, _, _, _ => none
 | k + 1, x4, x1000, x1001, x1002, x1003, x261000, x261001 => if x4 = 5 then ((spec_l1Next.f x1000 x1001 x1002 x1003 3).bind fun bt298 => (spec_l1DrawDisk.l0 k (wrap64 (1999 + bt298.1)) x1000 bt298.2.1 bt298.2.2.1 bt298.2.2.2 x261000 x261001)) else (some (x261000, x261001, x1001, x1002, x1003))
def spec_l1DrawDisk.l0 : Nat → Int → List Int → Int → Int → Int → List Int → List (S45) → Option (List Int × (List (S45)) × Int × Int × Int)
 | 0, _, _, _, _, _, _, _ => none
 | k + 1, x5, x1000, x1001, x1002, x1003, x261000, x261001 => if (x261001.length : Int) < x5 then (if 64 ≤ 281474976710656 then (if x261001.length < 4398046511104 then (spec_l1DrawDisk.l0 k x5 x1000 x1001 x1002 x1003 x261000 (x261001 ++ [(⟨0, (List.replicate 64 0)⟩ : S45)])) else (none)) else (none)) else (some (x261000, x261001, x1001, x1002, x1003))
end
def spec_l1DrawDisk.f (k : Nat) (s0_0 : List Int) (s0_1 : Int) (s0_2 : Int) (s0_3 : Int) : Option (List Int × (List (S45)) × Int × Int × Int) := (spec_l1DrawGood.f k s0_0 s0_1 s0_2 s0_3).bind fun bt251 => ((spec_l1Next.f s0_0 bt251.2.2.1 bt251.2.2.2.1 bt251.2.2.2.2 30).bind fun bt261 => (if bt261.1 = 0 then (if bt251.1.length < 140737488355328 then (spec_l1DrawDisk.j0 k bt261.1 s0_0 bt261.2.1 bt261.2.2.1 bt261.2.2.2 (bt251.1 ++ [1]) bt251.2.1) else (none)) else (spec_l1DrawDisk.j0 k bt261.1 s0_0 bt261.2.1 bt261.2.2.1 bt261.2.2.2 bt251.1 bt251.2.1)))
theorem spec_l1DrawDisk.mono_l : ∀ k, (∀ y0 y1 y2 y3 y4 y5 y6, LeO (spec_l1DrawDisk.j0 k y0 y1 y2 y3 y4 y5 y6) (spec_l1DrawDisk.j0 (k + 1) y0 y1 y2 y3 y4 y5 y6)) ∧ (∀ y0 y1 y2 y3 y4 y5 y6, LeO (spec_l1DrawDisk.j1 k y0 y1 y2 y3 y4 y5 y6) (spec_l1DrawDisk.j1 (k + 1) y0 y1 y2 y3 y4 y5 y6)) ∧ (∀ y0 y1 y2 y3 y4 y5 y6, LeO (spec_l1DrawDisk.j2 k y0 y1 y2 y3 y4 y5 y6) (spec_l1DrawDisk.j2 (k + 1) y0 y1 y2 y3 y4 y5 y6)) ∧ (∀ y0 y1 y2 y3 y4 y5 y6, LeO (spec_l1DrawDisk.j3 k y0 y1 y2 y3 y4 y5 y6) (spec_l1DrawDisk.j3 (k + 1) y0 y1 y2 y3 y4 y5 y6)) ∧ (∀ y0 y1 y2 y3 y4 y5 y6, LeO (spec_l1DrawDisk.j4 k y0 y1 y2 y3 y4 y5 y6) (spec_l1DrawDisk.j4 (k + 1) y0 y1 y2 y3 y4 y5 y6)) ∧ (∀ y0 y1 y2 y3 y4 y5 y6, LeO (spec_l1DrawDisk.l0 k y0 y1 y2 y3 y4 y5 y6) (spec_l1DrawDisk.l0 (k + 1) y0 y1 y2 y3 y4 y5 y6))
 | 0 => ⟨fun _ _ _ _ _ _ _ r h => by simp [spec_l1DrawDisk.j0] at h, fun _ _ _ _ _ _ _ r h => by simp [spec_l1DrawDisk.j1] at h, fun _ _ _ _ _ _ _ r h => by simp [spec_l1DrawDisk.j2] at h, fun _ _ _ _ _ _ _ r h => by simp [spec_l1DrawDisk.j3] at h, fun _ _ _ _ _ _ _ r h => by simp [spec_l1DrawDisk.j4] at h, fun _ _ _ _ _ _ _ r h => by simp [spec_l1DrawDisk.l0] at h⟩
 | k + 1 => by
  obtain ⟨ih0, ih1, ih2, ih3, ih4, ih5⟩ := spec_l1DrawDisk.mono_l k
  refine ⟨?_, ?_, ?_, ?_, ?_, ?_⟩
  ·intro y0 y1 y2 y3 y4 y5 y6
   unfold spec_l1DrawDisk.j0
   repeat' first
   | (with_reducible exact ih0 _ _ _ _ _ _ _)
   | (with_reducible exact ih1 _ _ _ _ _ _ _)
   | (with_reducible exact ih2 _ _ _ _ _ _ _)
   | (with_reducible exact ih3 _ _ _ _ _ _ _)
   | (with_reducible exact ih4 _ _ _ _ _ _ _)
   | (with_reducible exact ih5 _ _ _ _ _ _ _)
   | (with_reducible exact spec_l1DrawGood.mono _ _ _ _ _)
   | (with_reducible exact LeO.refl _)
   | (with_reducible exact LeO.none _)
   | (with_reducible refine LeO.ite ?_ ?_)
   | (with_reducible refine LeO.bind ?_ (fun _ => ?_))
   | exact ih0 _ _ _ _ _ _ _
   | exact ih1 _ _ _ _ _ _ _
   | exact ih2 _ _ _ _ _ _ _
   | exact ih3 _ _ _ _ _ _ _
   | exact ih4 _ _ _ _ _ _ _
   | exact ih5 _ _ _ _ _ _ _
   | exact spec_l1DrawGood.mono _ _ _ _ _
   | exact LeO.none _
   | refine LeO.ite ?_ ?_
   | refine LeO.bind ?_ (fun _ => ?_)
  ·intro y0 y1 y2 y3 y4 y5 y6
   unfold spec_l1DrawDisk.j1
   repeat' first
   | (with_reducible exact ih0 _ _ _ _ _ _ _)
   | (with_reducible exact ih1 _ _ _ _ _ _ _)
   | (with_reducible exact ih2 _ _ _ _ _ _ _)
   | (with_reducible exact ih3 _ _ _ _ _ _ _)
   | (with_reducible exact ih4 _ _ _ _ _ _ _)
   | (with_reducible exact ih5 _ _ _ _ _ _ _)
   | (with_reducible exact spec_l1DrawGood.mono _ _ _ _ _)
   | (with_reducible exact LeO.refl _)
   | (with_reducible exact LeO.none _)
   | (with_reducible refine LeO.ite ?_ ?_)
   | (with_reducible refine LeO.bind ?_ (fun _ => ?_))
   | exact ih0 _ _ _ _ _ _ _
   | exact ih1 _ _ _ _ _ _ _
   | exact ih2 _ _ _ _ _ _ _
   | exact ih3 _ _ _ _ _ _ _
   | exact ih4 _ _ _ _ _ _ _
   | exact ih5 _ _ _ _ _ _ _
   | exact spec_l1DrawGood.mono _ _ _ _ _
   | exact LeO.none _
   | refine LeO.ite ?_ ?_
   | refine LeO.bind ?_ (fun _ => ?_)
  ·intro y0 y1 y2 y3 y4 y5 y6
   unfold spec_l1DrawDisk.j2
   repeat' first
   | (with_reducible exact ih0 _ _ _ _ _ _ _)
   | (with_reducible exact ih1 _ _ _ _ _ _ _)
   | (with_reducible exact ih2 _ _ _ _ _ _ _)
   | (with_reducible exact ih3 _ _ _ _ _ _ _)
   | (with_reducible exact ih4 _ _ _ _ _ _ _)
   | (with_reducible exact ih5 _ _ _ _ _ _ _)
   | (with_reducible exact spec_l1DrawGood.mono _ _ _ _ _)
   | (with_reducible exact LeO.refl _)
   | (with_reducible exact LeO.none _)
   | (with_reducible refine LeO.ite ?_ ?_)
   | (with_reducible refine LeO.bind ?_ (fun _ => ?_))
   | exact ih0 _ _ _ _ _ _ _
   | exact ih1 _ _ _ _ _ _ _
   | exact ih2 _ _ _ _ _ _ _
   | exact ih3 _ _ _ _ _ _ _
   | exact ih4 _ _ _ _ _ _ _
   | exact ih5 _ _ _ _ _ _ _
   | exact spec_l1DrawGood.mono _ _ _ _ _
   | exact LeO.none _
   | refine LeO.ite ?_ ?_
   | refine LeO.bind ?_ (fun _ => ?_)
  ·intro y0 y1 y2 y3 y4 y5 y6
   unfold spec_l1DrawDisk.j3
   repeat' first
   | (with_reducible exact ih0 _ _ _ _ _ _ _)
   | (with_reducible exact ih1 _ _ _ _ _ _ _)
   | (with_reducible exact ih2 _ _ _ _ _ _ _)
   | (with_reducible exact ih3 _ _ _ _ _ _ _)
   | (with_reducible exact ih4 _ _ _ _ _ _ _)
   | (with_reducible exact ih5 _ _ _ _ _ _ _)
   | (with_reducible exact spec_l1DrawGood.mono _ _ _ _ _)
   | (with_reducible exact LeO.refl _)
   | (with_reducible exact LeO.none _)
   | (with_reducible refine LeO.ite ?_ ?_)
   | (with_reducible refine LeO.bind ?_ (fun _ => ?_))
   | exact ih0 _ _ _ _ _ _ _
   | exact ih1 _ _ _ _ _ _ _
   | exact ih2 _ _ _ _ _ _ _
   | exact ih3 _ _ _ _ _ _ _
   | exact ih4 _ _ _ _ _ _ _
   | exact ih5 _ _ _ _ _ _ _
   | exact spec_l1DrawGood.mono _ _ _ _ _
   | exact LeO.none _
   | refine LeO.ite ?_ ?_
   | refine LeO.bind ?_ (fun _ => ?_)
  ·intro y0 y1 y2 y3 y4 y5 y6
   unfold spec_l1DrawDisk.j4
   repeat' first
   | (with_reducible exact ih0 _ _ _ _ _ _ _)
   | (with_reducible exact ih1 _ _ _ _ _ _ _)
   | (with_reducible exact ih2 _ _ _ _ _ _ _)
   | (with_reducible exact ih3 _ _ _ _ _ _ _)
   | (with_reducible exact ih4 _ _ _ _ _ _ _)
   | (with_reducible exact ih5 _ _ _ _ _ _ _)
   | (with_reducible exact spec_l1DrawGood.mono _ _ _ _ _)
   | (with_reducible exact LeO.refl _)
   | (with_reducible exact LeO.none _)
   | (with_reducible refine LeO.ite ?_ ?_)
   | (with_reducible refine LeO.bind ?_ (fun _ => ?_))
   | exact ih0 _ _ _ _ _ _ _
   | exact ih1 _ _ _ _ _ _ _
   | exact ih2 _ _ _ _ _ _ _
   | exact ih3 _ _ _ _ _ _ _
   | exact ih4 _ _ _ _ _ _ _
   | exact ih5 _ _ _ _ _ _ _
   | exact spec_l1DrawGood.mono _ _ _ _ _
   | exact LeO.none _
   | refine LeO.ite ?_ ?_
   | refine LeO.bind ?_ (fun _ => ?_)
  ·intro y0 y1 y2 y3 y4 y5 y6
   unfold spec_l1DrawDisk.l0
   repeat' first
   | (with_reducible exact ih0 _ _ _ _ _ _ _)
   | (with_reducible exact ih1 _ _ _ _ _ _ _)
   | (with_reducible exact ih2 _ _ _ _ _ _ _)
   | (with_reducible exact ih3 _ _ _ _ _ _ _)
   | (with_reducible exact ih4 _ _ _ _ _ _ _)
   | (with_reducible exact ih5 _ _ _ _ _ _ _)
   | (with_reducible exact spec_l1DrawGood.mono _ _ _ _ _)
   | (with_reducible exact LeO.refl _)
   | (with_reducible exact LeO.none _)
   | (with_reducible refine LeO.ite ?_ ?_)
   | (with_reducible refine LeO.bind ?_ (fun _ => ?_))
   | exact ih0 _ _ _ _ _ _ _
   | exact ih1 _ _ _ _ _ _ _
   | exact ih2 _ _ _ _ _ _ _
   | exact ih3 _ _ _ _ _ _ _
   | exact ih4 _ _ _ _ _ _ _
   | exact ih5 _ _ _ _ _ _ _
   | exact spec_l1DrawGood.mono _ _ _ _ _
   | exact LeO.none _
   | refine LeO.ite ?_ ?_
   | refine LeO.bind ?_ (fun _ => ?_)
theorem spec_l1DrawDisk.mono : ∀ a0 a1 a2 a3 k, LeO (spec_l1DrawDisk.f k a0 a1 a2 a3) (spec_l1DrawDisk.f (k + 1) a0 a1 a2 a3) := by
 intro a0 a1 a2 a3 k
 obtain ⟨ih0, ih1, ih2, ih3, ih4, ih5⟩ := spec_l1DrawDisk.mono_l k
 unfold spec_l1DrawDisk.f
 repeat' first
   | (with_reducible exact ih0 _ _ _ _ _ _ _)
   | (with_reducible exact ih1 _ _ _ _ _ _ _)
   | (with_reducible exact ih2 _ _ _ _ _ _ _)
   | (with_reducible exact ih3 _ _ _ _ _ _ _)
   | (with_reducible exact ih4 _ _ _ _ _ _ _)
   | (with_reducible exact ih5 _ _ _ _ _ _ _)
   | (with_reducible exact spec_l1DrawGood.mono _ _ _ _ _)
   | (with_reducible exact LeO.refl _)
   | (with_reducible exact LeO.none _)
   | (with_reducible refine LeO.ite ?_ ?_)
   | (with_reducible refine LeO.bind ?_ (fun _ => ?_))
   | exact ih0 _ _ _ _ _ _ _
   | exact ih1 _ _ _ _ _ _ _
   | exact ih2 _ _ _ _ _ _ _
   | exact ih3 _ _ _ _ _ _ _
   | exact ih4 _ _ _ _ _ _ _
   | exact ih5 _ _ _ _ _ _ _
   | exact spec_l1DrawGood.mono _ _ _ _ _
   | exact LeO.none _
   | refine LeO.ite ?_ ?_
   | refine LeO.bind ?_ (fun _ => ?_)
def spec_l1DrawDisk.T10 : Bool × List (List Nat × List Nat) := (true, [([], []), ([0], [0]), ([], []), ([2], [2]), ([3], [3]), ([], []), ([5, 3], [5]), ([6], [6]), ([7, 7], [7]), ([4, 8], [4, 8]), ([9], [9]), ([1, 10, 6], [1, 10]), ([0, 1, 2, 3, 4, 5, 6, 7, 8, 9, 10, 11], []), ([12, 11, 11, 0, 1, 2, 3, 4, 5, 6, 7, 8, 9, 10, 11], [11, 12])])
def spec_l1DrawDisk.B10 : List Nat := [0, 1, 0, 4, 12, 0, 44, 108, 236, 508, 1020, 2047, 4095, 8191]
theorem spec_l1DrawDisk.tab10 : rtab .any (opsOf Try.f35 10) = spec_l1DrawDisk.T10 := by kernel_rfl
theorem spec_l1DrawDisk.bits10 : waitsOk spec_l1DrawDisk.T10.2 spec_l1DrawDisk.B10 = true := by kernel_rfl
def spec_l1DrawDisk.T12 : Bool × List (List Nat × List Nat) := (true, [([], []), ([0], [0]), ([], []), ([2], [2]), ([3], [3]), ([1, 4], [1, 4]), ([0, 1, 2, 3, 4, 5], []), ([6, 5, 5, 0, 1, 2, 3, 4, 5], [5, 6])])
def spec_l1DrawDisk.B12 : List Nat := [0, 1, 0, 4, 12, 31, 63, 127]
theorem spec_l1DrawDisk.tab12 : rtab .any (opsOf Try.f35 12) = spec_l1DrawDisk.T12 := by kernel_rfl
theorem spec_l1DrawDisk.bits12 : waitsOk spec_l1DrawDisk.T12.2 spec_l1DrawDisk.B12 = true := by kernel_rfl
def spec_l1DrawDisk.T16 : Bool × List (List Nat × List Nat) := (true, [([], []), ([0], [0]), ([], []), ([2], [2]), ([3], [3]), ([1, 4], [1, 4]), ([0, 1, 2, 3, 4, 5], []), ([6, 5, 5, 0, 1, 2, 3, 4, 5], [5, 6])])
def spec_l1DrawDisk.B16 : List Nat := [0, 1, 0, 4, 12, 31, 63, 127]
theorem spec_l1DrawDisk.tab16 : rtab .any (opsOf Try.f35 16) = spec_l1DrawDisk.T16 := by kernel_rfl
theorem spec_l1DrawDisk.bits16 : waitsOk spec_l1DrawDisk.T16.2 spec_l1DrawDisk.B16 = true := by kernel_rfl
set_option maxHeartbeats 8000000 in
set_option maxRecDepth 100000 in
theorem spec_l1DrawDisk.calls (k : Nat) (g : Nat) (s0_0 : List Int) (s0_1 : Int) (s0_2 : Int) (s0_3 : Int) (r1 : List Int) (r2 : List (S45)) (r3 : Int) (r4 : Int) (r5 : Int) (w0 w : World) (hI : IsS93 w0 w g s0_0 s0_1 s0_2 s0_3) (hB : BelX g w0 w) (h : spec_l1DrawDisk.f k s0_0 s0_1 s0_2 s0_3 = some (r1, r2, r3, r4, r5)) :
  Calls Try.prog 35 #[.pointer (some ⟨g, 0, none⟩)] w fun e w' => ∃ v0_ v1_ : Value, e = .returned (.agg #[v0_, v1_]) ∧ Kd.R (Kd.int .u8) 5 w' w.heap.size (fun _ => True) v0_ r1 ∧ Kd.S k45 45 w' w.heap.size (fun k_ => some k_ ≠ (v0_ : Value).ownBlock) v1_ r2 ∧ IsS93 w0 w' g s0_0 r3 r4 r5 ∧ BelX g w0 w' ∧ KeepBut w w' g none := by
 have hu35 := Try.underlying35
 have hu45 := Try.underlying45
 have HI0 := Aside0.mk hI
 have HK := Aside0.mk (KeepBut.refl w g none)
 have HL := Aside0.mk hB.size
 clear hI
 have HW0 := Aside0.mk hB.size
 have HB := Aside0.mk hB
 clear hB
 have H : ((spec_l1DrawGood.f k s0_0 s0_1 s0_2 s0_3).bind fun bt251 => ((spec_l1Next.f s0_0 bt251.2.2.1 bt251.2.2.2.1 bt251.2.2.2.2 30).bind fun bt261 => (if bt261.1 = 0 then (if bt251.1.length < 140737488355328 then (spec_l1DrawDisk.j0 k bt261.1 s0_0 bt261.2.1 bt261.2.2.1 bt261.2.2.2 (bt251.1 ++ [1]) bt251.2.1) else (none)) else (spec_l1DrawDisk.j0 k bt261.1 s0_0 bt261.2.1 bt261.2.2.1 bt261.2.2.2 bt251.1 bt251.2.1)))) = some (r1, r2, r3, r4, r5) := h
 clear h
 replace H := Option.bind_eq_some_iff.mp H
 obtain ⟨⟨t251, t254, t257, t258, t259⟩, A20, H⟩ := H
 replace H : ((spec_l1Next.f s0_0 t257 t258 t259 30).bind fun bt261 => (if bt261.1 = 0 then (if t251.length < 140737488355328 then (spec_l1DrawDisk.j0 k bt261.1 s0_0 bt261.2.1 bt261.2.2.1 bt261.2.2.2 (t251 ++ [1]) t254) else (none)) else (spec_l1DrawDisk.j0 k bt261.1 s0_0 bt261.2.1 bt261.2.2.1 bt261.2.2.2 t251 t254))) = some (r1, r2, r3, r4, r5) := H
 have A2 := Aside0.mk A20
 clear A20
 replace H := Option.bind_eq_some_iff.mp H
 obtain ⟨⟨t261, t262, t263, t264⟩, A30, H⟩ := H
 replace H : (if t261 = 0 then (if t251.length < 140737488355328 then (spec_l1DrawDisk.j0 k t261 s0_0 t262 t263 t264 (t251 ++ [1]) t254) else (none)) else (spec_l1DrawDisk.j0 k t261 s0_0 t262 t263 t264 t251 t254)) = some (r1, r2, r3, r4, r5) := H
 have A3 := Aside0.mk A30
 clear A30
 have HC4 := Aside0.mk H
 clear H
 go_enter Try.func35, Try.ntmps35
 go_upto_if 11 with (first | ((with_reducible refine zt (N := 2) rfl ?_); refine zF ?hg (N := 2) ?hd (cs := #[.slice none 0 0, .slice none 0 0]) (t := 35) ?hr ?_; (case hd => rfl); (case hg => rfl); (case hr => first | (go_simp; done) | (go_simp; rfl)); intro zM hg w5 hbox hb; have n0_ := Aside0.mk (IsS93.below (by exact IsS93.l HI0.out) hb); have n1_ := Aside0.mk (KeepBut.trans (by exact kx HK.out) (KeepBut.of_below hb g none) (.inl rfl)); have n2_ := Aside0.mk (belx_step (g := g) (w0 := w0) (by exact bx HB.out) hb); have n3_ := Aside0.mk (hbox); have n4_ := Aside0.mk ((by rw [hg]; exact (keep_size (w := w) (g := g) (row := none) (by exact kx HK.out)) : w.heap.size ≤ zM)); have n5_ := Aside0.mk ((Nat.le_trans HW0.out (by rw [hg]; exact (keep_size (w := w) (g := g) (row := none) (by exact kx HK.out)) : w.heap.size ≤ zM) : w0.heap.size ≤ zM)); have n6_ := Aside0.mk ((by rw [hg]; exact Nat.ne_of_lt (IsS93.lt (show IsS93 w0 _ g s0_0 s0_1 s0_2 s0_3 from by exact IsS93.l HI0.out)) : g ≠ zM)); have n7_ := Aside0.mk ((by rw [hg]; exact Nat.ne_of_gt (IsS93.lt (show IsS93 w0 _ g s0_0 s0_1 s0_2 s0_3 from by exact IsS93.l HI0.out)) : zM ≠ g)); clear HI0; clear HK; clear HB; have HI0 := n0_; have HK := n1_; have HB := n2_; have zJ := n3_; have GW250 := n4_; have zP := n5_; have zN := n6_; have zV := n7_; clear n0_ n1_ n2_ n3_ n4_ n5_ n6_ n7_; clear hb hbox hg) | ((with_reducible refine zo (f := 66) rfl ?_); refine zC (some 7) rfl rfl Try.func66 (by kernel_rfl) rfl #[.pointer (some ⟨g, 0, none⟩)] rfl (by (try simp only [List.map_toArray, List.map_cons, List.map_nil]); first | done | rfl) ?_; (with_reducible refine (spec_l1DrawGood.calls k g s0_0 s0_1 s0_2 s0_3 t251 t254 t257 t258 t259 w0 _ ?side1 ?side2 A2.out).mono ?_); (case side1 => exact IsS93.l HI0.out); (case side2 => exact bx HB.out); rintro e w6 ⟨v252, v255, rfl, zEb, zFb, hi, hb, hk⟩; refine ⟨_, rfl, ?_⟩; have n0_ := Aside0.mk (KeepBut.blk hk (g' := zM) (o := .cells #[.slice none 0 0, .slice none 0 0] 35 (0, 0)) (BL zJ.out) zV.out (by simp)); have n1_ := Aside0.mk (Kd.R_lower zEb (keep_size (w := w) (g := g) (row := none) (by exact kx HK.out))); have n2_ := Aside0.mk (Kd.S_lower zFb (keep_size (w := w) (g := g) (row := none) (by exact kx HK.out))); have n3_ := Aside0.mk (KeepBut.trans (by exact kx HK.out) hk (.inl rfl)); have n4_ := Aside0.mk (hb); have n5_ := Aside0.mk (hi); clear zJ; clear HK; clear HB; clear HI0; have zJ := n0_; have zT := n1_; have zU := n2_; have HK := n3_; have HB := n4_; have HI0 := n5_; clear n0_ n1_ n2_ n3_ n4_ n5_; (try clear hb); (try clear hb2); (try clear hk); (try clear hi); (try clear zEb); (try clear zFb)) | ((with_reducible refine zt (N := 3) rfl ?_); refine zF ?hg (N := 3) ?hd (cs := #[.slice none 0 0, .slice none 0 0]) (t := 35) ?hr ?_; (case hd => rfl); (case hg => rfl); (case hr => first | (go_simp; done) | (go_simp; rfl)); intro zK hg w7 hbox hb; have n0_ := Aside0.mk (Kd.R_below (RL zT.out) hb); have n1_ := Aside0.mk (Kd.S_below (SL zU.out) hb); have n2_ := Aside0.mk (IsS93.below (by exact IsS93.l HI0.out) hb); have n3_ := Aside0.mk (zl (g := zM) (o := .cells #[.slice none 0 0, .slice none 0 0] 35 (0, 0)) (BL zJ.out) hb); have n4_ := Aside0.mk (KeepBut.trans (by exact kx HK.out) (KeepBut.of_below hb g none) (.inl rfl)); have n5_ := Aside0.mk (belx_step (g := g) (w0 := w0) (by exact bx HB.out) hb); have n6_ := Aside0.mk (hbox); have n7_ := Aside0.mk ((by rw [hg]; exact (keep_size (w := w) (g := g) (row := none) (by exact kx HK.out)) : w.heap.size ≤ zK)); have n8_ := Aside0.mk ((Nat.le_trans HW0.out (by rw [hg]; exact (keep_size (w := w) (g := g) (row := none) (by exact kx HK.out)) : w.heap.size ≤ zK) : w0.heap.size ≤ zK)); have n9_ := Aside0.mk ((by rw [hg]; exact Nat.ne_of_lt (zr (g := zM) (o := .cells #[.slice none 0 0, .slice none 0 0] 35 (0, 0)) (BL zJ.out)) : zM ≠ zK)); have n10_ := Aside0.mk ((by rw [hg]; exact Nat.ne_of_gt (zr (g := zM) (o := .cells #[.slice none 0 0, .slice none 0 0] 35 (0, 0)) (BL zJ.out)) : zK ≠ zM)); have n11_ := Aside0.mk ((by rw [hg]; exact Nat.ne_of_lt (IsS93.lt (show IsS93 w0 _ g s0_0 t257 t258 t259 from by exact IsS93.l HI0.out)) : g ≠ zK)); have n12_ := Aside0.mk ((by rw [hg]; exact Nat.ne_of_gt (IsS93.lt (show IsS93 w0 _ g s0_0 t257 t258 t259 from by exact IsS93.l HI0.out)) : zK ≠ g)); clear zT; clear zU; clear HI0; clear zJ; clear HK; clear HB; have zT := n0_; have zU := n1_; have HI0 := n2_; have zJ := n3_; have HK := n4_; have HB := n5_; have zG := n6_; have GW260 := n7_; have zQ := n8_; have zO := n9_; have zR := n10_; have zL := n11_; have zS := n12_; clear n0_ n1_ n2_ n3_ n4_ n5_ n6_ n7_ n8_ n9_ n10_ n11_ n12_; clear hb hbox hg; obtain ⟨Ao8, co8, eo8⟩ := Kd.R_slice zT.out; subst eo8; have zEc := zR.out; have zFc := zO.out; have zac := zS.out; have zbc := zL.out; have zW : w7.cell? ⟨zK, 0, none⟩ = some (.slice none 0 0) := (zb zG.out 0).trans rfl; have zX : w7.cell? ⟨zK, 1, none⟩ = some (.slice none 0 0) := (zb zG.out 1).trans rfl; have zY := zd zG.out 0; have zZ := zd zG.out 1; obtain ⟨Ao12, co12, eo12⟩ := Kd.S_slice zU.out; subst eo12) | ((with_reducible refine zo (f := 36) rfl ?_); refine zC (some 9) rfl rfl Try.func36 (by kernel_rfl) rfl #[.pointer (some ⟨g, 0, none⟩), .int .i64 30] rfl (by (try simp only [List.map_toArray, List.map_cons, List.map_nil]); first | done | rfl) ?_; (with_reducible refine (spec_l1Next.calls g s0_0 t257 t258 t259 30 t261 t262 t263 t264 w0 _ ?side1 ?side2 A3.out).mono ?_); (case side1 => repeat (first | (with_reducible first | exact HI0.out | apply IsS93.alloc | apply IsS93.drewN | apply IsS93.drew | apply IsS93.set_1 | apply IsS93.set_2 | apply IsS93.set_3 | refine IsS93.far ?_ zN.out _ | refine IsS93.far ?_ zL.out _) | exact HI0.out)); (case side2 => repeat (first | (with_reducible first | exact HB.out | apply belx_alloc | apply belx_drewN | apply belx_drew | refine belx_set ?_ zP.out | refine belx_set ?_ zQ.out | apply belx_setg) | exact HB.out)); rintro e w13 ⟨rfl, hi, hb, hk⟩; refine ⟨_, rfl, ?_⟩; have n0_ := Aside0.mk (KeepBut.blk hk (g' := zM) (o := .cells #[.slice none 0 0, .slice none 0 0] 35 (0, 0)) (by (with_reducible repeat (first | refine zj ?_ _ | refine zg ?_ | refine zh ?_ _)); refine zE ?_ zO.out _; (with_reducible repeat (first | refine zj ?_ _ | refine zg ?_ | refine zh ?_ _)); refine zE ?_ zO.out _; (with_reducible repeat (first | refine zj ?_ _ | refine zg ?_ | refine zh ?_ _)); exact zJ.out) zV.out (by simp)); have n1_ := Aside0.mk (Kd.R_mono (Kd.R_keep (IsS93.apart (show IsS93 w0 _ g s0_0 t257 t258 t259 from by repeat (first | (with_reducible first | exact HI0.out | apply IsS93.alloc | apply IsS93.drewN | apply IsS93.drew | apply IsS93.set_1 | apply IsS93.set_2 | apply IsS93.set_3 | refine IsS93.far ?_ zN.out _ | refine IsS93.far ?_ zL.out _) | exact HI0.out)) (RL ((Kd.R_mono (Kd.R_far (p := ⟨zK, 1, none⟩) (Kd.R_far (p := ⟨zK, 0, none⟩) (Kd.R_types zT.out zG.out (by decide)) (fun _ hk => hk.2) (.slice Ao8 t251.length co8)) (fun _ hk => hk.2) (.slice Ao12 t254.length co12)) (fun _ h_ => h_.1)))) (by decide)) hk (fun _ h => h.2)) (fun _ h => h.1)); have n2_ := Aside0.mk (Kd.S_mono (Kd.S_keep (IsS93.apartS (show IsS93 w0 _ g s0_0 t257 t258 t259 from by repeat (first | (with_reducible first | exact HI0.out | apply IsS93.alloc | apply IsS93.drewN | apply IsS93.drew | apply IsS93.set_1 | apply IsS93.set_2 | apply IsS93.set_3 | refine IsS93.far ?_ zN.out _ | refine IsS93.far ?_ zL.out _) | exact HI0.out)) (SL ((Kd.S_mono (Kd.S_far (p := ⟨zK, 1, none⟩) (Kd.S_far (p := ⟨zK, 0, none⟩) (Kd.S_types zU.out zG.out (by decide)) (fun _ hk => hk.2) (.slice Ao8 t251.length co8)) (fun _ hk => hk.2) (.slice Ao12 t254.length co12)) (fun _ h_ => h_.1)))) (by decide)) hk (fun _ h => h.2)) (fun _ h => h.1)); have n3_ := Aside0.mk (KeepBut.blk hk (g' := zK) (o := .cells #[.slice Ao8 t251.length co8, .slice Ao12 t254.length co12] 35 (0, 0)) (by (with_reducible repeat (first | refine zj ?_ _ | refine zg ?_ | refine zh ?_ _)); refine zz (cs := #[.slice Ao8 t251.length co8, .slice none 0 0]) ?_ 1 _ rfl; (with_reducible repeat (first | refine zj ?_ _ | refine zg ?_ | refine zh ?_ _)); refine zz (cs := #[.slice none 0 0, .slice none 0 0]) ?_ 0 _ rfl; (with_reducible repeat (first | refine zj ?_ _ | refine zg ?_ | refine zh ?_ _)); exact zG.out) zS.out (by simp)); have n4_ := Aside0.mk (KeepBut.trans (by repeat (first | (with_reducible first | exact HK.out | apply KeepBut.set_ | apply zx | apply zy | apply zw | refine zu ?_ GW250.out _ | refine zu ?_ GW260.out _) | exact HK.out)) hk (.inl rfl)); have n5_ := Aside0.mk (hb); have n6_ := Aside0.mk (hi); clear zJ; clear zT; clear zU; clear zG; clear HK; clear HB; clear HI0; have zJ := n0_; have zT := n1_; have zU := n2_; have zG := n3_; have HK := n4_; have HB := n5_; have HI0 := n6_; clear n0_ n1_ n2_ n3_ n4_ n5_ n6_; (try clear hb); (try clear hb2); (try clear hk); (try clear hi)))
 (try simp only [Act.put, List.setIfInBounds_toArray, List.set_cons_zero, List.set_cons_succ])
 go_cut [] (fun wc => ∃ (kq : Nat) (x261000_3 : List Int) (u261000 : Value), Aside0 (spec_l1DrawDisk.j0 kq t261 s0_0 t262 t263 t264 x261000_3 t254 = some (r1, r2, r3, r4, r5)) ∧ Aside0 (kq ≤ k) ∧ Aside0 (Kd.R (Kd.int .u8) 5 wc w.heap.size (fun _ => True) u261000 x261000_3) ∧ Aside0 (Kd.S k45 45 wc w.heap.size (fun k_ => some k_ ≠ (u261000 : Value).ownBlock) (.slice Ao12 t254.length co12) t254) ∧ Aside0 (wc.heap[zM]? = some (.cells #[(.slice none 0 0), (.slice none 0 0)] 35 (0, 0))) ∧ Aside0 (wc.heap[zK]? = some (.cells #[u261000, (.slice Ao12 t254.length co12)] 35 (0, 0))) ∧ Aside0 (IsS93 w0 wc g s0_0 t262 t263 t264) ∧ Aside0 (KeepBut w wc g none) ∧ Aside0 (BelX g w0 wc))
 case first =>
  have H := HC4.out
  clear HC4
  by_cases c14 : t261 = 0
  ·rw [if_pos c14] at H
   have c14b0 : (t261 == 0) = true := beq_iff_eq.mpr c14
   have c14b1 : (t261 != 0) = false := bne_eq_false_iff_eq.mpr c14
   clear c14
   (first | rw [c14b0] | (simp only [zp, zq]; rw [c14b0]) | skip)
   by_cases c15 : t251.length < 140737488355328
   ·rw [if_pos c15] at H
    have LMc15 := Aside0.mk c15
    clear c15
    obtain ⟨y265, hy265⟩ : ∃ y_ : List Int, y_ = (t251 ++ [1]) := ⟨_, rfl⟩
    replace H : (spec_l1DrawDisk.j0 k t261 s0_0 t262 t263 t264 y265 t254) = some (r1, r2, r3, r4, r5) := by first | (rw [hy265]; with_reducible exact H) | (have H2_ := (Option.bind_some _ _).symm.trans H; rw [hy265]; with_reducible exact H2_) | (have H2_ := (Option.bind_some _ _).symm.trans H; with_reducible exact H2_) | with_reducible exact H | (rw [hy265]; exact H) | exact H
    have Ny265 := Aside0.mk hy265
    clear hy265
    have H' := Aside0.mk H
    clear H
    have zcc := zR.out
    have zdc := zO.out
    have zec := zS.out
    have zfc := zL.out
    have zab : w13.cell? ⟨zK, 0, none⟩ = some (.slice Ao8 t251.length co8) := (zb zG.out 0).trans rfl
    have zbb : w13.cell? ⟨zK, 1, none⟩ = some (.slice Ao12 t254.length co12) := (zb zG.out 1).trans rfl
    have zcb := zd zG.out 0
    have zdb := zd zG.out 1
    go_wp2_with (first | ((with_reducible refine gate_builtin (b := .append) (xs := #[.tmp 13, .tmp 14]) rfl ?_); at_builtin; refine Kd.R_append (Kd.int .u8) w.heap.size rfl (.tmp 13) (.tmp 14) 22 5 (.int .u8 0) 1 rfl Try.underlying22 info5 rfl (by decide) (by omega) (.slice Ao8 t251.length co8) t251 1 [.int .u8 1] (fun _ => True) (fun _ => False) rfl rfl ?aP (fun _ hk => hk.elim) ?aF ?aO (Below.refl _ _) ?aS ?aL ?_; (case aP => exact rfl); (case aF => exact (fun _ _ => trivial)); (case aO => exact (RL zT.out)); (case aS => exact (keep_size (w := w) (g := g) (row := none) (by exact kx HK.out))); (case aL => have := LMc15.out; omega); intro v266 w19 ho hb hg hat; rw [← Ny265.out] at ho; have n0_ := Aside0.mk (IsS93.grown (by exact IsS93.l HI0.out) hg (IsS93.own_ne HI0.out zT.out (by decide))); have n1_ := Aside0.mk (zD (g := zM) (o := .cells #[.slice none 0 0, .slice none 0 0] 35 (0, 0)) (BL zJ.out) hg (Kd.R_ne zT.out zJ.out (by decide))); have n2_ := Aside0.mk (Kd.S_after (ok := (fun _ => True)) (SL (Kd.S_mono zU.out (fun _ hk => ⟨trivial, hk⟩))) hg hat); have n3_ := Aside0.mk (zD (g := zK) (o := .cells #[.slice Ao8 t251.length co8, .slice Ao12 t254.length co12] 35 (0, 0)) (BL zG.out) hg (Kd.R_ne zT.out zG.out (by decide))); have n4_ := Aside0.mk (belx_weaken (g := g) (w0 := w0) (by exact bx HB.out) HL.out hb); have n5_ := Aside0.mk (KeepBut.trans (by exact kx HK.out) (KeepBut.of_grown hg g) (Kd.R_base2 zT.out)); have n6_ := Aside0.mk (ho); clear HI0; clear zJ; clear zU; clear zG; clear HB; clear HK; clear zT; have HI0 := n0_; have zJ := n1_; have zU := n2_; have zG := n3_; have HB := n4_; have HK := n5_; have zyb := n6_; clear n0_ n1_ n2_ n3_ n4_ n5_ n6_; clear ho hb hg hat; obtain ⟨Ao20, co20, eo20⟩ := Kd.R_slice zyb.out; subst eo20; have zeb : w19.cell? ⟨zK, 0, none⟩ = some (.slice Ao8 t251.length co8) := (zb zG.out 0).trans rfl; have zfb : w19.cell? ⟨zK, 1, none⟩ = some (.slice Ao12 t254.length co12) := (zb zG.out 1).trans rfl; have zgb := zd zG.out 0; have zhb := zd zG.out 1))
    go_meet
    case rel => exact ⟨_, (y265), (.slice Ao20 y265.length co20), H', ⟨by first | omega | exact Nat.le_refl _⟩, ⟨RL (Kd.R_mono (Kd.R_far (p := ⟨zK, 0, none⟩) (Kd.R_types zyb.out zG.out (by decide)) (fun _ hk => hk.2) (.slice Ao20 y265.length co20)) (fun _ hk => trivial))⟩, ⟨SL (Kd.S_mono (Kd.S_far (p := ⟨zK, 0, none⟩) (Kd.S_types zU.out zG.out (by decide)) (fun _ hk => hk.2) (.slice Ao20 y265.length co20)) (fun _ hk => hk.1.2))⟩, ⟨by (with_reducible repeat (first | refine zj ?_ _ | refine zg ?_ | refine zh ?_ _)); refine zE ?_ zO.out _; (with_reducible repeat (first | refine zj ?_ _ | refine zg ?_ | refine zh ?_ _)); exact zJ.out⟩, ⟨by (with_reducible repeat (first | refine zj ?_ _ | refine zg ?_ | refine zh ?_ _)); refine zz (cs := #[.slice Ao8 t251.length co8, .slice Ao12 t254.length co12]) ?_ 0 _ rfl; (with_reducible repeat (first | refine zj ?_ _ | refine zg ?_ | refine zh ?_ _)); exact zG.out⟩, ⟨by repeat (first | (with_reducible first | exact HI0.out | apply IsS93.alloc | apply IsS93.drewN | apply IsS93.drew | apply IsS93.set_1 | apply IsS93.set_2 | apply IsS93.set_3 | refine IsS93.far ?_ zN.out _ | refine IsS93.far ?_ zL.out _) | exact HI0.out)⟩, ⟨by repeat (first | (with_reducible first | exact HK.out | apply KeepBut.set_ | apply zx | apply zy | apply zw | refine zu ?_ GW250.out _ | refine zu ?_ GW260.out _) | exact HK.out)⟩, ⟨by repeat (first | (with_reducible first | exact HB.out | apply belx_alloc | apply belx_drewN | apply belx_drew | refine belx_set ?_ zP.out | refine belx_set ?_ zQ.out | apply belx_setg) | exact HB.out)⟩⟩
   ·rw [if_neg c15] at H
    exact absurd H (by simp)
  ·rw [if_neg c14] at H
   have c14b0 : (t261 == 0) = false := beq_eq_false_iff_ne.mpr c14
   have c14b1 : (t261 != 0) = true := bne_iff_ne.mpr c14
   (first | rw [c14b0] | (simp only [zp, zq]; rw [c14b0]) | skip)
   have H' := Aside0.mk H
   clear H
   go_wp2
   go_meet
   case rel => exact ⟨_, (t251), (.slice Ao8 t251.length co8), H', ⟨by first | omega | exact Nat.le_refl _⟩, ⟨RL zT.out⟩, ⟨SL zU.out⟩, ⟨BL zJ.out⟩, ⟨BL zG.out⟩, ⟨by repeat (first | (with_reducible first | exact HI0.out | apply IsS93.alloc | apply IsS93.drewN | apply IsS93.drew | apply IsS93.set_1 | apply IsS93.set_2 | apply IsS93.set_3 | refine IsS93.far ?_ zN.out _ | refine IsS93.far ?_ zL.out _) | exact HI0.out)⟩, ⟨by repeat (first | (with_reducible first | exact HK.out | apply KeepBut.set_ | apply zx | apply zy | apply zw | refine zu ?_ GW250.out _ | refine zu ?_ GW260.out _) | exact HK.out)⟩, ⟨by repeat (first | (with_reducible first | exact HB.out | apply belx_alloc | apply belx_drewN | apply belx_drew | refine belx_set ?_ zP.out | refine belx_set ?_ zQ.out | apply belx_setg) | exact HB.out)⟩⟩
 case rest =>
  clear HC4
  try clear c1
  try clear p2
  try clear c3
  try clear c6
  try clear c9
  try clear c10
  try clear c14
  try clear c14b0
  try clear c14b1
  try clear c15
  try clear c16
  try clear c17
  try clear zW
  try clear zX
  try clear zab
  try clear zbb
  try clear zeb
  try clear zfb
  try clear zY
  try clear zZ
  try clear zcb
  try clear zdb
  try clear zgb
  try clear zhb
  obtain ⟨kq, x261000_3, u261000, HA, HJ3, zI, zH, zJ, zG, HI0, HK, HB⟩ := hcut
  cases kq with
  | zero => exact absurd HA.out (by simp [spec_l1DrawDisk.j0])
  | succ kj3 =>
   have H := HA.out
   clear HA
   simp only [spec_l1DrawDisk.j0] at H
   have HC22 := Aside0.mk H
   clear H
   go_upto_if 18 with (fail)
   go_cut [] (fun wc => ∃ (kq : Nat) (x261000_21 : List Int) (u261000 : Value), Aside0 (spec_l1DrawDisk.j1 kq t261 s0_0 t262 t263 t264 x261000_21 t254 = some (r1, r2, r3, r4, r5)) ∧ Aside0 (kq ≤ kj3) ∧ Aside0 (Kd.R (Kd.int .u8) 5 wc w.heap.size (fun _ => True) u261000 x261000_21) ∧ Aside0 (Kd.S k45 45 wc w.heap.size (fun k_ => some k_ ≠ (u261000 : Value).ownBlock) (.slice Ao12 t254.length co12) t254) ∧ Aside0 (wc.heap[zM]? = some (.cells #[(.slice none 0 0), (.slice none 0 0)] 35 (0, 0))) ∧ Aside0 (wc.heap[zK]? = some (.cells #[u261000, (.slice Ao12 t254.length co12)] 35 (0, 0))) ∧ Aside0 (IsS93 w0 wc g s0_0 t262 t263 t264) ∧ Aside0 (KeepBut w wc g none) ∧ Aside0 (BelX g w0 wc))
   case first =>
    have H := HC22.out
    clear HC22
    by_cases c23 : t261 = 1
    ·rw [if_pos c23] at H
     have c23b0 : (t261 == 1) = true := beq_iff_eq.mpr c23
     have c23b1 : (t261 != 1) = false := bne_eq_false_iff_eq.mpr c23
     clear c23
     (first | rw [c23b0] | (simp only [zp, zq]; rw [c23b0]) | skip)
     obtain ⟨y268, hy268⟩ : ∃ y_ : List Int, y_ = (([] : List Int)) := ⟨_, rfl⟩
     replace H : (spec_l1DrawDisk.j1 kj3 t261 s0_0 t262 t263 t264 y268 t254) = some (r1, r2, r3, r4, r5) := by first | (rw [hy268]; with_reducible exact H) | (have H2_ := (Option.bind_some _ _).symm.trans H; rw [hy268]; with_reducible exact H2_) | (have H2_ := (Option.bind_some _ _).symm.trans H; with_reducible exact H2_) | with_reducible exact H | (rw [hy268]; exact H) | exact H
     have Ny268 := Aside0.mk hy268
     clear hy268
     have H' := Aside0.mk H
     clear H
     go_wp2_with (first | ((with_reducible refine zt (N := 19) rfl ?_); refine Kd.R_lit (Kd.int .u8) _ 5 ?hg (N := 19) ?hd (xs := ([] : List Int)) (inner := []) (ok := fun _ => True) (okp := fun _ => True) ?hr ?hp (fun _ hk => hk) trivial (Below.refl _ _) (Nat.le_refl _) (by simp) ?_; (case hd => rfl); (case hg => rfl); (case hr => first | (go_simp; done) | (go_simp; rfl)); (case hp => exact (Reps.none _ _)); intro v269 w24 zqb hb hg_ hnew_; clear hg_ hnew_; (first | rw [← Ny268.out] at zqb | (simp only [Int.reduceToNat] at zqb; rw [← Ny268.out] at zqb)); have n0_ := Aside0.mk (Kd.R_elder' (RL zI.out) (Kd.R_base zqb) hb); have n1_ := Aside0.mk (Kd.S_elder' (SL zH.out) (Kd.R_base zqb) hb); have n2_ := Aside0.mk (Kd.R_lower (Kd.R_new' zqb (Kd.R_lt (RL zI.out))) (keep_size (w := w) (g := g) (row := none) (by exact kx HK.out))); have n3_ := Aside0.mk (zl (g := zM) (o := .cells #[.slice none 0 0, .slice none 0 0] 35 (0, 0)) (BL zJ.out) hb); have n4_ := Aside0.mk (zl (g := zK) (o := .cells #[u261000, .slice Ao12 t254.length co12] 35 (0, 0)) (BL zG.out) hb); have n5_ := Aside0.mk (IsS93.below (by exact IsS93.l HI0.out) hb); have n6_ := Aside0.mk (KeepBut.trans (by exact kx HK.out) (KeepBut.of_below hb g none) (.inl rfl)); have n7_ := Aside0.mk (belx_step (g := g) (w0 := w0) (by exact bx HB.out) hb); clear zI; clear zH; clear zJ; clear zG; clear HI0; clear HK; clear HB; have zI := n0_; have zH := n1_; have zzb := n2_; have zJ := n3_; have zG := n4_; have HI0 := n5_; have HK := n6_; have HB := n7_; clear n0_ n1_ n2_ n3_ n4_ n5_ n6_ n7_; clear hb zqb; obtain ⟨Ao26, co26, eo26⟩ := Kd.R_slice zzb.out; subst eo26; have zgc := zR.out; have zhc := zO.out; have zic := zS.out; have zjc := zL.out; have zib : w24.cell? ⟨zK, 0, none⟩ = some (u261000) := (zb zG.out 0).trans rfl; have zjb : w24.cell? ⟨zK, 1, none⟩ = some (.slice Ao12 t254.length co12) := (zb zG.out 1).trans rfl; have zkb := zd zG.out 0; have zlb := zd zG.out 1))
     go_meet
     case rel => exact ⟨_, (y268), (.slice Ao26 y268.length co26), H', ⟨by have := HJ3.out; first | omega | exact Nat.le_refl _⟩, ⟨RL (Kd.R_mono (Kd.R_far (p := ⟨zK, 0, none⟩) (Kd.R_types zzb.out zG.out (by decide)) (fun _ hk => hk.2) (.slice Ao26 y268.length co26)) (fun _ hk => trivial))⟩, ⟨SL (Kd.S_mono (Kd.S_far (p := ⟨zK, 0, none⟩) (Kd.S_types zH.out zG.out (by decide)) (fun _ hk => hk.2) (.slice Ao26 y268.length co26)) (fun _ hk => hk.1.2))⟩, ⟨by (with_reducible repeat (first | refine zj ?_ _ | refine zg ?_ | refine zh ?_ _)); refine zE ?_ zO.out _; (with_reducible repeat (first | refine zj ?_ _ | refine zg ?_ | refine zh ?_ _)); exact zJ.out⟩, ⟨by (with_reducible repeat (first | refine zj ?_ _ | refine zg ?_ | refine zh ?_ _)); refine zz (cs := #[u261000, .slice Ao12 t254.length co12]) ?_ 0 _ rfl; (with_reducible repeat (first | refine zj ?_ _ | refine zg ?_ | refine zh ?_ _)); exact zG.out⟩, ⟨by repeat (first | (with_reducible first | exact HI0.out | apply IsS93.alloc | apply IsS93.drewN | apply IsS93.drew | apply IsS93.set_1 | apply IsS93.set_2 | apply IsS93.set_3 | refine IsS93.far ?_ zN.out _ | refine IsS93.far ?_ zL.out _) | exact HI0.out)⟩, ⟨by repeat (first | (with_reducible first | exact HK.out | apply KeepBut.set_ | apply zx | apply zy | apply zw | refine zu ?_ GW250.out _ | refine zu ?_ GW260.out _) | exact HK.out)⟩, ⟨by repeat (first | (with_reducible first | exact HB.out | apply belx_alloc | apply belx_drewN | apply belx_drew | refine belx_set ?_ zP.out | refine belx_set ?_ zQ.out | apply belx_setg) | exact HB.out)⟩⟩
    ·rw [if_neg c23] at H
     have c23b0 : (t261 == 1) = false := beq_eq_false_iff_ne.mpr c23
     have c23b1 : (t261 != 1) = true := bne_iff_ne.mpr c23
     (first | rw [c23b0] | (simp only [zp, zq]; rw [c23b0]) | skip)
     have H' := Aside0.mk H
     clear H
     go_wp2
     go_meet
     case rel => exact ⟨_, (x261000_3), (u261000), H', ⟨by have := HJ3.out; first | omega | exact Nat.le_refl _⟩, ⟨RL zI.out⟩, ⟨SL zH.out⟩, ⟨BL zJ.out⟩, ⟨BL zG.out⟩, ⟨by repeat (first | (with_reducible first | exact HI0.out | apply IsS93.alloc | apply IsS93.drewN | apply IsS93.drew | apply IsS93.set_1 | apply IsS93.set_2 | apply IsS93.set_3 | refine IsS93.far ?_ zN.out _ | refine IsS93.far ?_ zL.out _) | exact HI0.out)⟩, ⟨by repeat (first | (with_reducible first | exact HK.out | apply KeepBut.set_ | apply zx | apply zy | apply zw | refine zu ?_ GW250.out _ | refine zu ?_ GW260.out _) | exact HK.out)⟩, ⟨by repeat (first | (with_reducible first | exact HB.out | apply belx_alloc | apply belx_drewN | apply belx_drew | refine belx_set ?_ zP.out | refine belx_set ?_ zQ.out | apply belx_setg) | exact HB.out)⟩⟩
   case rest =>
    clear HC22
    try clear c1
    try clear c2
    try clear p2
    try clear c3
    try clear c6
    try clear c9
    try clear c10
    try clear c14
    try clear c14b0
    try clear c14b1
    try clear c15
    try clear c16
    try clear c17
    try clear c23
    try clear c23b0
    try clear c23b1
    try clear c27
    try clear c28
    try clear zW
    try clear zX
    try clear zab
    try clear zbb
    try clear zeb
    try clear zfb
    try clear zib
    try clear zjb
    try clear zY
    try clear zZ
    try clear zcb
    try clear zdb
    try clear zgb
    try clear zhb
    try clear zkb
    try clear zlb
    try clear p2
    obtain ⟨kq, x261000_21, u261000, HA, HJ21, zI, zH, zJ, zG, HI0, HK, HB⟩ := hcut
    cases kq with
    | zero => exact absurd HA.out (by simp [spec_l1DrawDisk.j1])
    | succ kj21 =>
     have H := HA.out
     clear HA
     simp only [spec_l1DrawDisk.j1] at H
     have HC30 := Aside0.mk H
     clear H
     go_upto_if 22 with (fail)
     go_cut [] (fun wc => ∃ (kq : Nat) (x1001_29 : Int) (x1002_29 : Int) (x1003_29 : Int) (x261000_29 : List Int) (u261000 : Value), Aside0 (spec_l1DrawDisk.j2 kq t261 s0_0 x1001_29 x1002_29 x1003_29 x261000_29 t254 = some (r1, r2, r3, r4, r5)) ∧ Aside0 (kq ≤ kj21) ∧ Aside0 (Kd.R (Kd.int .u8) 5 wc w.heap.size (fun _ => True) u261000 x261000_29) ∧ Aside0 (Kd.S k45 45 wc w.heap.size (fun k_ => some k_ ≠ (u261000 : Value).ownBlock) (.slice Ao12 t254.length co12) t254) ∧ Aside0 (wc.heap[zM]? = some (.cells #[(.slice none 0 0), (.slice none 0 0)] 35 (0, 0))) ∧ Aside0 (wc.heap[zK]? = some (.cells #[u261000, (.slice Ao12 t254.length co12)] 35 (0, 0))) ∧ Aside0 (IsS93 w0 wc g s0_0 x1001_29 x1002_29 x1003_29) ∧ Aside0 (KeepBut w wc g none) ∧ Aside0 (BelX g w0 wc))
     case first =>
      have H := HC30.out
      clear HC30
      by_cases c31 : t261 = 2
      ·rw [if_pos c31] at H
       have c31b0 : (t261 == 2) = true := beq_iff_eq.mpr c31
       have c31b1 : (t261 != 2) = false := bne_eq_false_iff_eq.mpr c31
       clear c31
       (first | rw [c31b0] | (simp only [zp, zq]; rw [c31b0]) | skip)
       replace H := Option.bind_eq_some_iff.mp H
       obtain ⟨⟨t271, t272, t273, t274⟩, A320, H⟩ := H
       replace H : (if 0 ≤ (wrap64 ((wrap64 (300 + t271)) * 64)) then (if (wrap64 ((wrap64 (300 + t271)) * 64) : Int).toNat ≤ 281474976710656 then (spec_l1DrawDisk.j2 kj21 t261 s0_0 t272 t273 t274 (List.replicate (wrap64 ((wrap64 (300 + t271)) * 64) : Int).toNat 0) t254) else (none)) else (none)) = some (r1, r2, r3, r4, r5) := H
       have A32 := Aside0.mk A320
       clear A320
       obtain ⟨ji33, hji33⟩ : ∃ j_ : Int, (wrap64 ((wrap64 (300 + t271)) * 64)) = j_ := ⟨_, rfl⟩
       replace H : (if 0 ≤ (ji33) then (if (ji33 : Int).toNat ≤ 281474976710656 then (spec_l1DrawDisk.j2 kj21 t261 s0_0 t272 t273 t274 (List.replicate (ji33 : Int).toNat 0) t254) else (none)) else (none)) = some (r1, r2, r3, r4, r5) := by first | (rw [hji33] at H; exact H) | (simp only [hji33] at H ⊢; exact H)
       (try rw [hji33] at A32)
       have hji33w : (IntKind.i64.wrap ((wrap64 (300 + t271)) * 64)) = ji33 := (zp _).trans hji33
       by_cases c34 : 0 ≤ (ji33)
       ·rw [if_pos c34] at H
        have c34b0 := eq_true c34
        have c34b1 : decide (0 ≤ (ji33)) = true := decide_eq_true c34
        clear c34
        by_cases c35 : (ji33 : Int).toNat ≤ 281474976710656
        ·rw [if_pos c35] at H
         have c35b0 := eq_true c35
         have c35b1 : decide ((ji33 : Int).toNat ≤ 281474976710656) = true := decide_eq_true c35
         clear c35
         obtain ⟨y275, hy275⟩ : ∃ y_ : List Int, y_ = (List.replicate (ji33 : Int).toNat 0) := ⟨_, rfl⟩
         replace H : (spec_l1DrawDisk.j2 kj21 t261 s0_0 t272 t273 t274 y275 t254) = some (r1, r2, r3, r4, r5) := by first | (rw [hy275]; with_reducible exact H) | (have H2_ := (Option.bind_some _ _).symm.trans H; rw [hy275]; with_reducible exact H2_) | (have H2_ := (Option.bind_some _ _).symm.trans H; with_reducible exact H2_) | with_reducible exact H | (rw [hy275]; exact H) | exact H
         have Ny275 := Aside0.mk hy275
         clear hy275
         have H' := Aside0.mk H
         clear H
         go_wp2_with (first | ((with_reducible refine zo (f := 36) rfl ?_); refine zC (some 24) rfl rfl Try.func36 (by kernel_rfl) rfl #[.pointer (some ⟨g, 0, none⟩), .int .i64 2] rfl (by (try simp only [List.map_toArray, List.map_cons, List.map_nil]); first | done | rfl) ?_; (with_reducible refine (spec_l1Next.calls g s0_0 t262 t263 t264 2 t271 t272 t273 t274 w0 _ ?side1 ?side2 A32.out).mono ?_); (case side1 => exact IsS93.l HI0.out); (case side2 => exact bx HB.out); rintro e w36 ⟨rfl, hi, hb, hk⟩; refine ⟨_, rfl, ?_⟩; have n0_ := Aside0.mk (Kd.R_mono (Kd.R_keep (IsS93.apart (show IsS93 w0 _ g s0_0 t262 t263 t264 from by exact IsS93.l HI0.out) (RL zI.out) (by decide)) hk (fun _ h => h.2)) (fun _ h => h.1)); have n1_ := Aside0.mk (Kd.S_mono (Kd.S_keep (IsS93.apartS (show IsS93 w0 _ g s0_0 t262 t263 t264 from by exact IsS93.l HI0.out) (SL zH.out) (by decide)) hk (fun _ h => h.2)) (fun _ h => h.1)); have n2_ := Aside0.mk (KeepBut.blk hk (g' := zM) (o := .cells #[.slice none 0 0, .slice none 0 0] 35 (0, 0)) (BL zJ.out) zV.out (by simp)); have n3_ := Aside0.mk (KeepBut.blk hk (g' := zK) (o := .cells #[u261000, .slice Ao12 t254.length co12] 35 (0, 0)) (BL zG.out) zS.out (by simp)); have n4_ := Aside0.mk (KeepBut.trans (by exact kx HK.out) hk (.inl rfl)); have n5_ := Aside0.mk (hb); have n6_ := Aside0.mk (hi); clear zI; clear zH; clear zJ; clear zG; clear HK; clear HB; clear HI0; have zI := n0_; have zH := n1_; have zJ := n2_; have zG := n3_; have HK := n4_; have HB := n5_; have HI0 := n6_; clear n0_ n1_ n2_ n3_ n4_ n5_ n6_; (try clear hb); (try clear hb2); (try clear hk); (try clear hi)) | ((with_reducible refine zt (N := 27) rfl ?_); refine Kd.R_make (Kd.int .u8) _ 5 rfl (N := 27) rfl 22 _ _ rfl ji33 rfl rfl Try.underlying22 (.int .u8 0) 1 info5 rfl (by decide) (by omega) 0 (ok := fun _ => True) (okp := fun _ => True) rfl (fun _ hk => hk) trivial (of_decide_eq_true (by first | (with_reducible assumption) | assumption)) (Nat.le_trans (Nat.mul_le_mul_right _ (of_decide_eq_true (by first | (with_reducible assumption) | assumption) : ji33.toNat ≤ 281474976710656)) (by omega)) (Below.refl _ _) (Nat.le_refl _) ?_; intro v276 w37 zrb hb hg_ hnew_; clear hg_ hnew_; (first | rw [← Ny275.out] at zrb | (simp only [Int.reduceToNat] at zrb; rw [← Ny275.out] at zrb)); have n0_ := Aside0.mk (Kd.R_elder' (RL zI.out) (Kd.R_base zrb) hb); have n1_ := Aside0.mk (Kd.S_elder' (SL zH.out) (Kd.R_base zrb) hb); have n2_ := Aside0.mk (Kd.R_lower (Kd.R_new' zrb (Kd.R_lt (RL zI.out))) (keep_size (w := w) (g := g) (row := none) (by exact kx HK.out))); have n3_ := Aside0.mk (zl (g := zM) (o := .cells #[.slice none 0 0, .slice none 0 0] 35 (0, 0)) (BL zJ.out) hb); have n4_ := Aside0.mk (zl (g := zK) (o := .cells #[u261000, .slice Ao12 t254.length co12] 35 (0, 0)) (BL zG.out) hb); have n5_ := Aside0.mk (IsS93.below (by exact IsS93.l HI0.out) hb); have n6_ := Aside0.mk (KeepBut.trans (by exact kx HK.out) (KeepBut.of_below hb g none) (.inl rfl)); have n7_ := Aside0.mk (belx_step (g := g) (w0 := w0) (by exact bx HB.out) hb); clear zI; clear zH; clear zJ; clear zG; clear HI0; clear HK; clear HB; have zI := n0_; have zH := n1_; have zAb := n2_; have zJ := n3_; have zG := n4_; have HI0 := n5_; have HK := n6_; have HB := n7_; clear n0_ n1_ n2_ n3_ n4_ n5_ n6_ n7_; clear hb zrb; obtain ⟨Ao39, co39, eo39⟩ := Kd.R_slice zAb.out; subst eo39; have zkc := zR.out; have zlc := zO.out; have zmc := zS.out; have znc := zL.out; have zmb : w37.cell? ⟨zK, 0, none⟩ = some (u261000) := (zb zG.out 0).trans rfl; have znb : w37.cell? ⟨zK, 1, none⟩ = some (.slice Ao12 t254.length co12) := (zb zG.out 1).trans rfl; have zob := zd zG.out 0; have zpb := zd zG.out 1))
         go_meet
         case rel => exact ⟨_, (t272), (t273), (t274), (y275), (.slice Ao39 y275.length co39), H', ⟨by have := HJ3.out; have := HJ21.out; first | omega | exact Nat.le_refl _⟩, ⟨RL (Kd.R_mono (Kd.R_far (p := ⟨zK, 0, none⟩) (Kd.R_types zAb.out zG.out (by decide)) (fun _ hk => hk.2) (.slice Ao39 y275.length co39)) (fun _ hk => trivial))⟩, ⟨SL (Kd.S_mono (Kd.S_far (p := ⟨zK, 0, none⟩) (Kd.S_types zH.out zG.out (by decide)) (fun _ hk => hk.2) (.slice Ao39 y275.length co39)) (fun _ hk => hk.1.2))⟩, ⟨by (with_reducible repeat (first | refine zj ?_ _ | refine zg ?_ | refine zh ?_ _)); refine zE ?_ zO.out _; (with_reducible repeat (first | refine zj ?_ _ | refine zg ?_ | refine zh ?_ _)); exact zJ.out⟩, ⟨by (with_reducible repeat (first | refine zj ?_ _ | refine zg ?_ | refine zh ?_ _)); refine zz (cs := #[u261000, .slice Ao12 t254.length co12]) ?_ 0 _ rfl; (with_reducible repeat (first | refine zj ?_ _ | refine zg ?_ | refine zh ?_ _)); exact zG.out⟩, ⟨by repeat (first | (with_reducible first | exact HI0.out | apply IsS93.alloc | apply IsS93.drewN | apply IsS93.drew | apply IsS93.set_1 | apply IsS93.set_2 | apply IsS93.set_3 | refine IsS93.far ?_ zN.out _ | refine IsS93.far ?_ zL.out _) | exact HI0.out)⟩, ⟨by repeat (first | (with_reducible first | exact HK.out | apply KeepBut.set_ | apply zx | apply zy | apply zw | refine zu ?_ GW250.out _ | refine zu ?_ GW260.out _) | exact HK.out)⟩, ⟨by repeat (first | (with_reducible first | exact HB.out | apply belx_alloc | apply belx_drewN | apply belx_drew | refine belx_set ?_ zP.out | refine belx_set ?_ zQ.out | apply belx_setg) | exact HB.out)⟩⟩
        ·rw [if_neg c35] at H
         exact absurd H (by simp)
       ·rw [if_neg c34] at H
        exact absurd H (by simp)
      ·rw [if_neg c31] at H
       have c31b0 : (t261 == 2) = false := beq_eq_false_iff_ne.mpr c31
       have c31b1 : (t261 != 2) = true := bne_iff_ne.mpr c31
       (first | rw [c31b0] | (simp only [zp, zq]; rw [c31b0]) | skip)
       have H' := Aside0.mk H
       clear H
       go_wp2
       go_meet
       case rel => exact ⟨_, (t262), (t263), (t264), (x261000_21), (u261000), H', ⟨by have := HJ3.out; have := HJ21.out; first | omega | exact Nat.le_refl _⟩, ⟨RL zI.out⟩, ⟨SL zH.out⟩, ⟨BL zJ.out⟩, ⟨BL zG.out⟩, ⟨by repeat (first | (with_reducible first | exact HI0.out | apply IsS93.alloc | apply IsS93.drewN | apply IsS93.drew | apply IsS93.set_1 | apply IsS93.set_2 | apply IsS93.set_3 | refine IsS93.far ?_ zN.out _ | refine IsS93.far ?_ zL.out _) | exact HI0.out)⟩, ⟨by repeat (first | (with_reducible first | exact HK.out | apply KeepBut.set_ | apply zx | apply zy | apply zw | refine zu ?_ GW250.out _ | refine zu ?_ GW260.out _) | exact HK.out)⟩, ⟨by repeat (first | (with_reducible first | exact HB.out | apply belx_alloc | apply belx_drewN | apply belx_drew | refine belx_set ?_ zP.out | refine belx_set ?_ zQ.out | apply belx_setg) | exact HB.out)⟩⟩
     case rest =>
      clear HC30
      try clear c1
      try clear c2
      try clear p2
      try clear c3
      try clear c4
      try clear c6
      try clear p6
      try clear c9
      try clear c10
      try clear c14
      try clear c14b0
      try clear c14b1
      try clear c15
      try clear c16
      try clear c17
      try clear c23
      try clear c23b0
      try clear c23b1
      try clear c27
      try clear c28
      try clear c31
      try clear c31b0
      try clear c31b1
      try clear c34
      try clear c34b0
      try clear c34b1
      try clear c35
      try clear c35b0
      try clear c35b1
      try clear c36
      try clear c40
      try clear c41
      try clear zW
      try clear zX
      try clear zab
      try clear zbb
      try clear zeb
      try clear zfb
      try clear zib
      try clear zjb
      try clear zmb
      try clear znb
      try clear zY
      try clear zZ
      try clear zcb
      try clear zdb
      try clear zgb
      try clear zhb
      try clear zkb
      try clear zlb
      try clear zob
      try clear zpb
      try clear p2
      obtain ⟨kq, x1001_29, x1002_29, x1003_29, x261000_29, u261000, HA, HJ29, zI, zH, zJ, zG, HI0, HK, HB⟩ := hcut
      cases kq with
      | zero => exact absurd HA.out (by simp [spec_l1DrawDisk.j2])
      | succ kj29 =>
       have H := HA.out
       clear HA
       simp only [spec_l1DrawDisk.j2] at H
       have HC43 := Aside0.mk H
       clear H
       go_upto_if 30 with (fail)
       go_cut [] (fun wc => ∃ (kq : Nat) (x1001_42 : Int) (x1002_42 : Int) (x1003_42 : Int) (x261001_42 : List (S45)) (u261001 : Value), Aside0 (spec_l1DrawDisk.j3 kq t261 s0_0 x1001_42 x1002_42 x1003_42 x261000_29 x261001_42 = some (r1, r2, r3, r4, r5)) ∧ Aside0 (kq ≤ kj29) ∧ Aside0 (Kd.R (Kd.int .u8) 5 wc w.heap.size (fun _ => True) u261000 x261000_29) ∧ Aside0 (Kd.S k45 45 wc w.heap.size (fun k_ => some k_ ≠ (u261000 : Value).ownBlock) u261001 x261001_42) ∧ Aside0 (wc.heap[zM]? = some (.cells #[(.slice none 0 0), (.slice none 0 0)] 35 (0, 0))) ∧ Aside0 (wc.heap[zK]? = some (.cells #[u261000, u261001] 35 (0, 0))) ∧ Aside0 (IsS93 w0 wc g s0_0 x1001_42 x1002_42 x1003_42) ∧ Aside0 (KeepBut w wc g none) ∧ Aside0 (BelX g w0 wc))
       case first =>
        have H := HC43.out
        clear HC43
        by_cases c44 : t261 = 3
        ·rw [if_pos c44] at H
         have c44b0 : (t261 == 3) = true := beq_iff_eq.mpr c44
         have c44b1 : (t261 != 3) = false := bne_eq_false_iff_eq.mpr c44
         clear c44
         (first | rw [c44b0] | (simp only [zp, zq]; rw [c44b0]) | skip)
         replace H := Option.bind_eq_some_iff.mp H
         obtain ⟨⟨t278, t279, t280, t281⟩, A450, H⟩ := H
         replace H : ((spec_l1Next.f s0_0 t279 t280 t281 3).bind fun bt282 => (if 0 ≤ (wrap64 (63 + bt282.1)) then (if (wrap64 (63 + bt282.1) : Int).toNat ≤ 281474976710656 then (if t254.length < 4398046511104 then (spec_l1DrawDisk.j3 kj29 t261 s0_0 bt282.2.1 bt282.2.2.1 bt282.2.2.2 x261000_29 (t254 ++ [(⟨wrap64 (t278 * 9), (List.replicate (wrap64 (63 + bt282.1) : Int).toNat 0)⟩ : S45)])) else (none)) else (none)) else (none))) = some (r1, r2, r3, r4, r5) := H
         have A45 := Aside0.mk A450
         clear A450
         replace H := Option.bind_eq_some_iff.mp H
         obtain ⟨⟨t282, t283, t284, t285⟩, A460, H⟩ := H
         replace H : (if 0 ≤ (wrap64 (63 + t282)) then (if (wrap64 (63 + t282) : Int).toNat ≤ 281474976710656 then (if t254.length < 4398046511104 then (spec_l1DrawDisk.j3 kj29 t261 s0_0 t283 t284 t285 x261000_29 (t254 ++ [(⟨wrap64 (t278 * 9), (List.replicate (wrap64 (63 + t282) : Int).toNat 0)⟩ : S45)])) else (none)) else (none)) else (none)) = some (r1, r2, r3, r4, r5) := H
         have A46 := Aside0.mk A460
         clear A460
         obtain ⟨ji47, hji47⟩ : ∃ j_ : Int, (wrap64 (63 + t282)) = j_ := ⟨_, rfl⟩
         replace H : (if 0 ≤ (ji47) then (if (ji47 : Int).toNat ≤ 281474976710656 then (if t254.length < 4398046511104 then (spec_l1DrawDisk.j3 kj29 t261 s0_0 t283 t284 t285 x261000_29 (t254 ++ [(⟨wrap64 (t278 * 9), (List.replicate (ji47 : Int).toNat 0)⟩ : S45)])) else (none)) else (none)) else (none)) = some (r1, r2, r3, r4, r5) := by first | (rw [hji47] at H; exact H) | (simp only [hji47] at H ⊢; exact H)
         (try rw [hji47] at A45)
         (try rw [hji47] at A46)
         have hji47w : (IntKind.i64.wrap (63 + t282)) = ji47 := (zp _).trans hji47
         by_cases c48 : 0 ≤ (ji47)
         ·rw [if_pos c48] at H
          have c48b0 := eq_true c48
          have c48b1 : decide (0 ≤ (ji47)) = true := decide_eq_true c48
          clear c48
          by_cases c49 : (ji47 : Int).toNat ≤ 281474976710656
          ·rw [if_pos c49] at H
           have c49b0 := eq_true c49
           have c49b1 : decide ((ji47 : Int).toNat ≤ 281474976710656) = true := decide_eq_true c49
           clear c49
           obtain ⟨y286, hy286⟩ : ∃ y_ : List Int, y_ = (List.replicate (ji47 : Int).toNat 0) := ⟨_, rfl⟩
           replace H : (if t254.length < 4398046511104 then (spec_l1DrawDisk.j3 kj29 t261 s0_0 t283 t284 t285 x261000_29 (t254 ++ [(⟨wrap64 (t278 * 9), y286⟩ : S45)])) else (none)) = some (r1, r2, r3, r4, r5) := by first | (rw [hy286]; with_reducible exact H) | (have H2_ := (Option.bind_some _ _).symm.trans H; rw [hy286]; with_reducible exact H2_) | (have H2_ := (Option.bind_some _ _).symm.trans H; with_reducible exact H2_) | with_reducible exact H | (rw [hy286]; exact H) | exact H
           have Ny286 := Aside0.mk hy286
           clear hy286
           by_cases c50 : t254.length < 4398046511104
           ·rw [if_pos c50] at H
            have LMc50 := Aside0.mk c50
            clear c50
            obtain ⟨y289, hy289⟩ : ∃ y_ : List (S45), y_ = (t254 ++ [(⟨wrap64 (t278 * 9), y286⟩ : S45)]) := ⟨_, rfl⟩
            replace H : (spec_l1DrawDisk.j3 kj29 t261 s0_0 t283 t284 t285 x261000_29 y289) = some (r1, r2, r3, r4, r5) := by first | (rw [hy289]; with_reducible exact H) | (have H2_ := (Option.bind_some _ _).symm.trans H; rw [hy289]; with_reducible exact H2_) | (have H2_ := (Option.bind_some _ _).symm.trans H; with_reducible exact H2_) | with_reducible exact H | (rw [hy289]; exact H) | exact H
            have Ny289 := Aside0.mk hy289
            clear hy289
            have H' := Aside0.mk H
            clear H
            try go_wp2
            have n0_ := Aside0.mk (Kd.R_drew zI.out)
            have n1_ := Aside0.mk (Kd.S_drew zH.out)
            have n2_ := Aside0.mk (zg zJ.out)
            have n3_ := Aside0.mk (zg zG.out)
            have n4_ := Aside0.mk (IsS93.drew HI0.out)
            have n5_ := Aside0.mk (zy HK.out)
            have n6_ := Aside0.mk (belx_drew HB.out)
            clear zI
            clear zH
            clear zJ
            clear zG
            clear HI0
            clear HK
            clear HB
            have zI := n0_
            have zH := n1_
            have zJ := n2_
            have zG := n3_
            have HI0 := n4_
            have HK := n5_
            have HB := n6_
            clear n0_ n1_ n2_ n3_ n4_ n5_ n6_
            refine start_ (n := 14) (S := fun w' => w'.cell? ⟨zK, 0, none⟩ = some (u261000) ∧ w'.cell? ⟨zK, 1, none⟩ = some (.slice Ao12 t254.length co12)) (ds := [13]) #[false, false, false, false, false, false, false, false, false, false, false, false, false, false] (by kernel_rfl) rfl rfl ⟨(zb zG.out 0).trans rfl, (zb zG.out 1).trans rfl⟩ (fun hHeld => ?_); refine with_tabW spec_l1DrawDisk.tab10 spec_l1DrawDisk.bits10 (fun HT_ HW_ => ?_)
            generalize wc.drew = w51 at zI zH zJ zG HI0 HK HB hHeld ⊢
            refine zA (i := 0) (N := some 31) (v := ?_) (a' := ?_) #[true, false, false, false, false, false, false, false, false, false, false, false, false, false] rfl rfl (zB HT_.out (by kernel_rfl)) (fun _ _ _ h => h) (Or.inl ⟨by rfl, ?_⟩) ?_ ?_
            rotate_left
            ·intro w'
             go_simp
             with_reducible rfl
            rotate_left
            ·simp only [Act.put, List.setIfInBounds_toArray, List.set_cons_zero, List.set_cons_succ, zp, zq]
             rfl
            refine zA (i := 2) (N := some 33) (v := ?_) (a' := ?_) #[true, false, true, false, false, false, false, false, false, false, false, false, false, false] rfl rfl (zB HT_.out (by kernel_rfl)) (fun _ _ _ h => h) (Or.inl ⟨by rfl, ?_⟩) ?_ ?_
            rotate_left
            ·intro w'
             go_simp
             with_reducible rfl
            rotate_left
            ·simp only [Act.put, List.setIfInBounds_toArray, List.set_cons_zero, List.set_cons_succ, zp, zq]
             rfl
            refine zA (i := 5) (N := some 36) (v := ?_) (a' := ?_) #[true, false, true, false, false, true, false, false, false, false, false, false, false, false] rfl rfl (zB HT_.out (by kernel_rfl)) (fun _ _ _ h => h) (Or.inl ⟨by rfl, ?_⟩) ?_ ?_
            rotate_left
            ·intro w'
             go_simp
             with_reducible rfl
            rotate_left
            ·simp only [Act.put, List.setIfInBounds_toArray, List.set_cons_zero, List.set_cons_succ, zp, zq]
             rfl
            refine take_ (i := 1) (N := some 32) (v := ?_) (a' := ?_) #[true, true, true, false, false, true, false, false, false, false, false, false, false, false] rfl rfl (take_ofW HT_.out HW_.out (by kernel_rfl)) (fun _ _ _ h => h) (Or.inl ⟨by rfl, ?_⟩) hHeld ?_ ?_
            rotate_left
            ·rintro w' ⟨s0, s1⟩
             go_simp
             with_reducible rfl
            rotate_left
            ·simp only [Act.put, List.setIfInBounds_toArray, List.set_cons_zero, List.set_cons_succ, zp, zq]
             rfl
            refine one_ (i := 3) (N := some 34) #[true, true, true, true, false, true, false, false, false, false, false, false, false, false] rfl rfl (one_of HT_.out (by kernel_rfl)) (by decide) (fun K hK => ?_)
            refine goes_ Try.func36 (by kernel_rfl) rfl #[.pointer (some ⟨g, 0, none⟩), .int .i64 2] (by rfl) rfl rfl (by (try simp only [List.map_toArray, List.map_cons, List.map_nil]); first | done | rfl) ?_
            with_reducible refine (spec_l1Next.calls g s0_0 x1001_29 x1002_29 x1003_29 2 t278 t279 t280 t281 w0 _ ?side1 ?side2 A45.out).mono ?_
            (case side1 => repeat (first | (with_reducible first | exact HI0.out | apply IsS93.alloc | apply IsS93.drewN | apply IsS93.drew | apply IsS93.set_1 | apply IsS93.set_2 | apply IsS93.set_3 | refine IsS93.far ?_ zN.out _ | refine IsS93.far ?_ zL.out _) | exact HI0.out))
            (case side2 => repeat (first | (with_reducible first | exact HB.out | apply belx_alloc | apply belx_drewN | apply belx_drew | refine belx_set ?_ zP.out | refine belx_set ?_ zQ.out | apply belx_setg) | exact HB.out))
            rintro e w52 ⟨rfl, hi, hb, hk⟩
            refine ⟨_, rfl, ?_⟩
            have n0_ := Aside0.mk (Kd.R_mono (Kd.R_keep (IsS93.apart (show IsS93 w0 _ g s0_0 x1001_29 x1002_29 x1003_29 from by repeat (first | (with_reducible first | exact HI0.out | apply IsS93.alloc | apply IsS93.drewN | apply IsS93.drew | apply IsS93.set_1 | apply IsS93.set_2 | apply IsS93.set_3 | refine IsS93.far ?_ zN.out _ | refine IsS93.far ?_ zL.out _) | exact HI0.out)) (RL zI.out) (by decide)) hk (fun _ h => h.2)) (fun _ h => h.1))
            have n1_ := Aside0.mk (Kd.S_mono (Kd.S_keep (IsS93.apartS (show IsS93 w0 _ g s0_0 x1001_29 x1002_29 x1003_29 from by repeat (first | (with_reducible first | exact HI0.out | apply IsS93.alloc | apply IsS93.drewN | apply IsS93.drew | apply IsS93.set_1 | apply IsS93.set_2 | apply IsS93.set_3 | refine IsS93.far ?_ zN.out _ | refine IsS93.far ?_ zL.out _) | exact HI0.out)) (SL zH.out) (by decide)) hk (fun _ h => h.2)) (fun _ h => h.1))
            have n2_ := Aside0.mk (KeepBut.blk hk (g' := zM) (o := .cells #[.slice none 0 0, .slice none 0 0] 35 (0, 0)) (BL zJ.out) zV.out (by simp))
            have n3_ := Aside0.mk (KeepBut.blk hk (g' := zK) (o := .cells #[u261000, .slice Ao12 t254.length co12] 35 (0, 0)) (BL zG.out) zS.out (by simp))
            have n4_ := Aside0.mk (KeepBut.trans (by repeat (first | (with_reducible first | exact HK.out | apply KeepBut.set_ | apply zx | apply zy | apply zw | refine zu ?_ GW250.out _ | refine zu ?_ GW260.out _) | exact HK.out)) hk (.inl rfl))
            have n5_ := Aside0.mk (hb)
            have n6_ := Aside0.mk (hi)
            clear zI
            clear zH
            clear zJ
            clear zG
            clear HK
            clear HB
            clear HI0
            have zI := n0_
            have zH := n1_
            have zJ := n2_
            have zG := n3_
            have HK := n4_
            have HB := n5_
            have HI0 := n6_
            clear n0_ n1_ n2_ n3_ n4_ n5_ n6_
            (try clear hb)
            (try clear hb2)
            (try clear hk)
            (try clear hi)
            refine hK.out _ _ ⟨(zb zG.out 0).trans rfl, (zb zG.out 1).trans rfl⟩ (fun hHeld => ?_)
            clear hK K
            refine norm_ (a' := ?_) ?_ ?_
            rotate_left
            ·show Act.put _ (some 34) _ = _
             simp only [Act.put, List.setIfInBounds_toArray, List.set_cons_zero, List.set_cons_succ, zp, zq]
             rfl
            refine zA (i := 4) (N := some 35) (v := ?_) (a' := ?_) #[true, true, true, true, true, true, false, false, false, false, false, false, false, false] rfl rfl (zB HT_.out (by kernel_rfl)) (fun _ _ _ h => h) (Or.inl ⟨by rfl, ?_⟩) ?_ ?_
            rotate_left
            ·intro w'
             go_simp
             with_reducible rfl
            rotate_left
            ·simp only [Act.put, List.setIfInBounds_toArray, List.set_cons_zero, List.set_cons_succ, zp, zq]
             rfl
            refine one_ (i := 6) (N := some 37) #[true, true, true, true, true, true, true, false, false, false, false, false, false, false] rfl rfl (one_of HT_.out (by kernel_rfl)) (by decide) (fun K hK => ?_)
            refine goes_ Try.func36 (by kernel_rfl) rfl #[.pointer (some ⟨g, 0, none⟩), .int .i64 3] (by rfl) rfl rfl (by (try simp only [List.map_toArray, List.map_cons, List.map_nil]); first | done | rfl) ?_
            with_reducible refine (spec_l1Next.calls g s0_0 t279 t280 t281 3 t282 t283 t284 t285 w0 _ ?side1 ?side2 A46.out).mono ?_
            (case side1 => repeat (first | (with_reducible first | exact HI0.out | apply IsS93.alloc | apply IsS93.drewN | apply IsS93.drew | apply IsS93.set_1 | apply IsS93.set_2 | apply IsS93.set_3 | refine IsS93.far ?_ zN.out _ | refine IsS93.far ?_ zL.out _) | exact HI0.out))
            (case side2 => repeat (first | (with_reducible first | exact HB.out | apply belx_alloc | apply belx_drewN | apply belx_drew | refine belx_set ?_ zP.out | refine belx_set ?_ zQ.out | apply belx_setg) | exact HB.out))
            rintro e w53 ⟨rfl, hi, hb, hk⟩
            refine ⟨_, rfl, ?_⟩
            have n0_ := Aside0.mk (Kd.R_mono (Kd.R_keep (IsS93.apart (show IsS93 w0 _ g s0_0 t279 t280 t281 from by repeat (first | (with_reducible first | exact HI0.out | apply IsS93.alloc | apply IsS93.drewN | apply IsS93.drew | apply IsS93.set_1 | apply IsS93.set_2 | apply IsS93.set_3 | refine IsS93.far ?_ zN.out _ | refine IsS93.far ?_ zL.out _) | exact HI0.out)) (RL zI.out) (by decide)) hk (fun _ h => h.2)) (fun _ h => h.1))
            have n1_ := Aside0.mk (Kd.S_mono (Kd.S_keep (IsS93.apartS (show IsS93 w0 _ g s0_0 t279 t280 t281 from by repeat (first | (with_reducible first | exact HI0.out | apply IsS93.alloc | apply IsS93.drewN | apply IsS93.drew | apply IsS93.set_1 | apply IsS93.set_2 | apply IsS93.set_3 | refine IsS93.far ?_ zN.out _ | refine IsS93.far ?_ zL.out _) | exact HI0.out)) (SL zH.out) (by decide)) hk (fun _ h => h.2)) (fun _ h => h.1))
            have n2_ := Aside0.mk (KeepBut.blk hk (g' := zM) (o := .cells #[.slice none 0 0, .slice none 0 0] 35 (0, 0)) (BL zJ.out) zV.out (by simp))
            have n3_ := Aside0.mk (KeepBut.blk hk (g' := zK) (o := .cells #[u261000, .slice Ao12 t254.length co12] 35 (0, 0)) (BL zG.out) zS.out (by simp))
            have n4_ := Aside0.mk (KeepBut.trans (by repeat (first | (with_reducible first | exact HK.out | apply KeepBut.set_ | apply zx | apply zy | apply zw | refine zu ?_ GW250.out _ | refine zu ?_ GW260.out _) | exact HK.out)) hk (.inl rfl))
            have n5_ := Aside0.mk (hb)
            have n6_ := Aside0.mk (hi)
            clear zI
            clear zH
            clear zJ
            clear zG
            clear HK
            clear HB
            clear HI0
            have zI := n0_
            have zH := n1_
            have zJ := n2_
            have zG := n3_
            have HK := n4_
            have HB := n5_
            have HI0 := n6_
            clear n0_ n1_ n2_ n3_ n4_ n5_ n6_
            (try clear hb)
            (try clear hb2)
            (try clear hk)
            (try clear hi)
            refine hK.out _ _ ⟨(zb zG.out 0).trans rfl, (zb zG.out 1).trans rfl⟩ (fun hHeld => ?_)
            clear hK K
            refine norm_ (a' := ?_) ?_ ?_
            rotate_left
            ·show Act.put _ (some 37) _ = _
             simp only [Act.put, List.setIfInBounds_toArray, List.set_cons_zero, List.set_cons_succ, zp, zq]
             rfl
            refine zA (i := 7) (N := some 38) (v := ?_) (a' := ?_) #[true, true, true, true, true, true, true, true, false, false, false, false, false, false] rfl rfl (zB HT_.out (by kernel_rfl)) (fun _ _ _ h => h) (Or.inl ⟨by rfl, ?_⟩) ?_ ?_
            rotate_left
            ·intro w'
             go_simp
             with_reducible rfl
            rotate_left
            ·simp only [Act.put, List.setIfInBounds_toArray, List.set_cons_zero, List.set_cons_succ, zp, zq]
             rfl
            refine one_ (i := 8) (N := some 39) #[true, true, true, true, true, true, true, true, true, false, false, false, false, false] rfl rfl (one_of HT_.out (by kernel_rfl)) (by decide) (fun K hK => ?_)
            refine Kd.R_make_step (Kd.int .u8) _ 5 (by rfl) (N := 39) rfl 22 _ _ rfl ji47 rfl rfl Try.underlying22 (.int .u8 0) 1 info5 rfl (by decide) (by omega) 0 (ok := fun _ => True) (okp := fun _ => True) rfl (fun _ hk => hk) trivial (of_decide_eq_true (by first | (with_reducible assumption) | assumption)) (Nat.le_trans (Nat.mul_le_mul_right _ (of_decide_eq_true (by first | (with_reducible assumption) | assumption) : ji47.toNat ≤ 281474976710656)) (by omega)) (Below.refl _ _) (Nat.le_refl _) ?_
            intro v287 w54 zsb hb hg_ hnew_
            clear hg_ hnew_
            (first | rw [← Ny286.out] at zsb | (simp only [Int.reduceToNat] at zsb; rw [← Ny286.out] at zsb))
            have n0_ := Aside0.mk (Kd.R_elder' (RL zI.out) (Kd.R_base zsb) hb)
            have n1_ := Aside0.mk (Kd.S_elder' (SL zH.out) (Kd.R_base zsb) hb)
            have n2_ := Aside0.mk (Kd.R_lower (Kd.R_new' zsb (Kd.R_lt (RL zI.out))) (keep_size (w := w) (g := g) (row := none) (by repeat (first | (with_reducible first | exact HK.out | apply KeepBut.set_ | apply zx | apply zy | apply zw | refine zu ?_ GW250.out _ | refine zu ?_ GW260.out _) | exact HK.out))))
            have n3_ := Aside0.mk (zl (g := zM) (o := .cells #[.slice none 0 0, .slice none 0 0] 35 (0, 0)) (BL zJ.out) hb)
            have n4_ := Aside0.mk (zl (g := zK) (o := .cells #[u261000, .slice Ao12 t254.length co12] 35 (0, 0)) (BL zG.out) hb)
            have n5_ := Aside0.mk (IsS93.below (by repeat (first | (with_reducible first | exact HI0.out | apply IsS93.alloc | apply IsS93.drewN | apply IsS93.drew | apply IsS93.set_1 | apply IsS93.set_2 | apply IsS93.set_3 | refine IsS93.far ?_ zN.out _ | refine IsS93.far ?_ zL.out _) | exact HI0.out)) hb)
            have n6_ := Aside0.mk (KeepBut.trans (by repeat (first | (with_reducible first | exact HK.out | apply KeepBut.set_ | apply zx | apply zy | apply zw | refine zu ?_ GW250.out _ | refine zu ?_ GW260.out _) | exact HK.out)) (KeepBut.of_below hb g none) (.inl rfl))
            have n7_ := Aside0.mk (belx_step (g := g) (w0 := w0) (by repeat (first | (with_reducible first | exact HB.out | apply belx_alloc | apply belx_drewN | apply belx_drew | refine belx_set ?_ zP.out | refine belx_set ?_ zQ.out | apply belx_setg) | exact HB.out)) hb)
            clear zI
            clear zH
            clear zJ
            clear zG
            clear HI0
            clear HK
            clear HB
            have zI := n0_
            have zH := n1_
            have zvb := n2_
            have zJ := n3_
            have zG := n4_
            have HI0 := n5_
            have HK := n6_
            have HB := n7_
            clear n0_ n1_ n2_ n3_ n4_ n5_ n6_ n7_
            clear hb zsb
            obtain ⟨Ao56, co56, eo56⟩ := Kd.R_slice zvb.out
            (first | subst eo56 | (injection eo56 with f1_ f2_ f3_; have f4_ := f1_.symm; have f5_ := f3_.symm; clear f1_ f2_ f3_; subst f4_; subst f5_))
            refine hK.out _ _ ⟨(zb zG.out 0).trans rfl, (zb zG.out 1).trans rfl⟩ (fun hHeld => ?_)
            clear hK K
            refine norm_ (a' := ?_) ?_ ?_
            rotate_left
            ·show Act.put _ (some 39) _ = _
             simp only [Act.put, List.setIfInBounds_toArray, List.set_cons_zero, List.set_cons_succ, zp, zq]
             rfl
            refine zA (i := 9) (N := some 40) (v := ?_) (a' := ?_) #[true, true, true, true, true, true, true, true, true, true, false, false, false, false] rfl rfl (zB HT_.out (by kernel_rfl)) (fun _ _ _ h => h) (Or.inl ⟨by rfl, ?_⟩) ?_ ?_
            rotate_left
            ·intro w'
             go_simp
             with_reducible rfl
            rotate_left
            ·simp only [Act.put, List.setIfInBounds_toArray, List.set_cons_zero, List.set_cons_succ, zp, zq]
             rfl
            refine one_ (i := 10) (N := some 41) #[true, true, true, true, true, true, true, true, true, true, true, false, false, false] rfl rfl (one_of HT_.out (by kernel_rfl)) (by decide) (fun K hK => ?_)
            refine value_ (w1 := ?_) (v := ?_) (by rfl) rfl ?_ ?_
            rotate_left 2
            ·go_simp
             constructor
             ·rfl
             ·rfl
            refine hK.out _ _ ⟨(zb (zh zG.out _) 0).trans rfl, (zb (zh zG.out _) 1).trans rfl⟩ (fun hHeld => ?_)
            clear hK K
            refine norm_ (a' := ?_) ?_ ?_
            rotate_left
            ·show Act.put _ (some 41) _ = _
             simp only [Act.put, List.setIfInBounds_toArray, List.set_cons_zero, List.set_cons_succ, zp, zq]
             rfl
            refine one_ (i := 11) (N := some 42) #[true, true, true, true, true, true, true, true, true, true, true, true, false, false] rfl rfl (one_of HT_.out (by kernel_rfl)) (by decide) (fun K hK => ?_)
            refine Kd.S_append_step k45 w.heap.size (by rfl) (.tmp 32) (.tmp 41) 33 45 (.agg #[(.int .i64 0), (.slice none 0 0)]) 32 rfl Try.underlying33 info45 rfl (by decide) (by omega) (.slice Ao12 t254.length co12) t254 (⟨wrap64 (t278 * 9), y286⟩ : S45) [.int .i64 (wrap64 (t278 * 9)), .slice Ao56 y286.length co56] (fun k_ => some k_ ≠ (u261000 : Value).ownBlock) (fun k_ => some k_ = (.slice Ao56 y286.length co56 : Value).ownBlock) rfl rfl ?aP (fun k_ hk_ => ((Kd.R_mono (ok' := fun k_ => ((fun k_ => some k_ ≠ (u261000 : Value).ownBlock)) k_ ∧ some k_ ≠ (.slice Ao12 t254.length co12 : Value).ownBlock) (Kd.R_apart' (zvb.out) (Kd.S_typed zH.out) (by decide)) (fun k_ hk => ⟨hk.1.2, hk.2⟩))).1 k_ hk_.symm) ?aF ?aO (Below.refl _ _) ?aS ?aL ?_
            (case aP => exact k45_mkM _ _ _ (⟨wrap64 (t278 * 9), y286⟩ : S45) (Kd.R_mono (Kd.R_tight rfl (Kd.R_mono (ok' := fun k_ => ((fun k_ => some k_ ≠ (u261000 : Value).ownBlock)) k_ ∧ some k_ ≠ (.slice Ao12 t254.length co12 : Value).ownBlock) (Kd.R_apart' (zvb.out) (Kd.S_typed zH.out) (by decide)) (fun k_ hk => ⟨hk.1.2, hk.2⟩))) (fun _ h_ => h_)))
            (case aF => exact (fun k_ hk => Kd.fresh' (Kd.R_lt (RL zI.out)) k_ hk))
            (case aO => exact (SL (Kd.S_mono zH.out (fun k_ hk => ⟨hk.1, fun e_ => hk.2 e_⟩))))
            (case aS => exact (keep_size (w := w) (g := g) (row := none) (by repeat (first | (with_reducible first | exact HK.out | apply KeepBut.set_ | apply zx | apply zy | apply zw | refine zu ?_ GW250.out _ | refine zu ?_ GW260.out _) | exact HK.out))))
            (case aL => have := LMc50.out; omega)
            intro v290 w57 ho hb hg hat
            rw [← Ny289.out] at ho
            have n0_ := Aside0.mk (Kd.R_over' (RL zI.out) (Kd.S_typed (SL zH.out)) (by decide) hg)
            have n1_ := Aside0.mk (zD (g := zM) (o := .cells #[.slice none 0 0, .slice none 0 0] 35 (0, 0)) (BL zJ.out) hg (Kd.S_ne zH.out zJ.out (by decide)))
            have n2_ := Aside0.mk (zD (g := zK) (o := .cells #[u261000, .slice Ao12 t254.length co12] 35 (0, 0)) (BL zG.out) hg (Kd.S_ne zH.out zG.out (by decide)))
            have n3_ := Aside0.mk (IsS93.grown (by repeat (first | (with_reducible first | exact HI0.out | apply IsS93.alloc | apply IsS93.drewN | apply IsS93.drew | apply IsS93.set_1 | apply IsS93.set_2 | apply IsS93.set_3 | refine IsS93.far ?_ zN.out _ | refine IsS93.far ?_ zL.out _) | exact HI0.out)) hg (IsS93.own_neS HI0.out zH.out (by decide)))
            have n4_ := Aside0.mk (belx_weaken (g := g) (w0 := w0) (by repeat (first | (with_reducible first | exact HB.out | apply belx_alloc | apply belx_drewN | apply belx_drew | refine belx_set ?_ zP.out | refine belx_set ?_ zQ.out | apply belx_setg) | exact HB.out)) HL.out hb)
            have n5_ := Aside0.mk (KeepBut.trans (by repeat (first | (with_reducible first | exact HK.out | apply KeepBut.set_ | apply zx | apply zy | apply zw | refine zu ?_ GW250.out _ | refine zu ?_ GW260.out _) | exact HK.out)) (KeepBut.of_grown hg g) (Kd.S_base2 zH.out))
            have n6_ := Aside0.mk (ho)
            clear zI
            clear zJ
            clear zG
            clear HI0
            clear HB
            clear HK
            clear zH
            clear zvb
            have zI := n0_
            have zJ := n1_
            have zG := n2_
            have HI0 := n3_
            have HB := n4_
            have HK := n5_
            have zBb := n6_
            clear n0_ n1_ n2_ n3_ n4_ n5_ n6_
            clear ho hb hg hat
            obtain ⟨Ao58, co58, eo58⟩ := Kd.S_slice zBb.out
            (first | subst eo58 | (injection eo58 with f1_ f2_ f3_; have f4_ := f1_.symm; have f5_ := f3_.symm; clear f1_ f2_ f3_; subst f4_; subst f5_))
            refine hK.out _ _ ⟨(zb zG.out 0).trans rfl, (zb zG.out 1).trans rfl⟩ (fun hHeld => ?_)
            clear hK K
            refine norm_ (a' := ?_) ?_ ?_
            rotate_left
            ·show Act.put _ (some 42) _ = _
             simp only [Act.put, List.setIfInBounds_toArray, List.set_cons_zero, List.set_cons_succ, zp, zq]
             rfl
            refine zA (i := 12) (N := some 43) (v := ?_) (a' := ?_) #[true, true, true, true, true, true, true, true, true, true, true, true, true, false] rfl rfl (zB HT_.out (by kernel_rfl)) (fun _ _ _ h => h) (Or.inl ⟨by rfl, ?_⟩) ?_ ?_
            rotate_left
            ·intro w'
             go_simp
             with_reducible rfl
            rotate_left
            ·simp only [Act.put, List.setIfInBounds_toArray, List.set_cons_zero, List.set_cons_succ, zp, zq]
             rfl
            refine last_ (i := 13) (N := none) #[true, true, true, true, true, true, true, true, true, true, true, true, true, true] rfl rfl (one_of HT_.out (by kernel_rfl)) (by decide) (fun K hK => ?_)
            have hs59 : w57.cell? ⟨zK, 1, none⟩ = some (.slice Ao12 t254.length co12) := (zb zG.out 1).trans rfl
            have hfs59 := zd zG.out 1
            have hns59_0 := zO.out
            have hms59_0 := zR.out
            refine skip_ (w1 := ?_) (by rfl) rfl ?_ ?_
            rotate_left
            ·go_simp
             rfl
            refine hK.out _ _ ?_
            clear hK K
            refine done_ (done_of HT_.out (by kernel_rfl)) ?_
            try go_wp2
            go_meet
            case rel => exact ⟨_, (t283), (t284), (t285), (y289), (.slice Ao58 y289.length co58), H', ⟨by have := HJ3.out; have := HJ21.out; have := HJ29.out; first | omega | exact Nat.le_refl _⟩, ⟨RL (Kd.R_mono (Kd.R_far (p := ⟨zK, 1, none⟩) (Kd.R_types zI.out zG.out (by decide)) (fun _ hk => hk.2) (.slice Ao58 y289.length co58)) (fun _ hk => trivial))⟩, ⟨SL (Kd.S_mono (Kd.S_far (p := ⟨zK, 1, none⟩) (Kd.S_types zBb.out zG.out (by decide)) (fun _ hk => hk.2) (.slice Ao58 y289.length co58)) (fun _ hk => hk.1))⟩, ⟨by (with_reducible repeat (first | refine zj ?_ _ | refine zg ?_ | refine zh ?_ _)); refine zE ?_ zO.out _; (with_reducible repeat (first | refine zj ?_ _ | refine zg ?_ | refine zh ?_ _)); exact zJ.out⟩, ⟨by (with_reducible repeat (first | refine zj ?_ _ | refine zg ?_ | refine zh ?_ _)); refine zz (cs := #[u261000, .slice Ao12 t254.length co12]) ?_ 1 _ rfl; (with_reducible repeat (first | refine zj ?_ _ | refine zg ?_ | refine zh ?_ _)); exact zG.out⟩, ⟨by repeat (first | (with_reducible first | exact HI0.out | apply IsS93.alloc | apply IsS93.drewN | apply IsS93.drew | apply IsS93.set_1 | apply IsS93.set_2 | apply IsS93.set_3 | refine IsS93.far ?_ zN.out _ | refine IsS93.far ?_ zL.out _) | exact HI0.out)⟩, ⟨by repeat (first | (with_reducible first | exact HK.out | apply KeepBut.set_ | apply zx | apply zy | apply zw | refine zu ?_ GW250.out _ | refine zu ?_ GW260.out _) | exact HK.out)⟩, ⟨by repeat (first | (with_reducible first | exact HB.out | apply belx_alloc | apply belx_drewN | apply belx_drew | refine belx_set ?_ zP.out | refine belx_set ?_ zQ.out | apply belx_setg) | exact HB.out)⟩⟩
           ·rw [if_neg c50] at H
            exact absurd H (by simp)
          ·rw [if_neg c49] at H
           exact absurd H (by simp)
         ·rw [if_neg c48] at H
          exact absurd H (by simp)
        ·rw [if_neg c44] at H
         have c44b0 : (t261 == 3) = false := beq_eq_false_iff_ne.mpr c44
         have c44b1 : (t261 != 3) = true := bne_iff_ne.mpr c44
         (first | rw [c44b0] | (simp only [zp, zq]; rw [c44b0]) | skip)
         have H' := Aside0.mk H
         clear H
         go_wp2
         go_meet
         case rel => exact ⟨_, (x1001_29), (x1002_29), (x1003_29), (t254), (.slice Ao12 t254.length co12), H', ⟨by have := HJ3.out; have := HJ21.out; have := HJ29.out; first | omega | exact Nat.le_refl _⟩, ⟨RL zI.out⟩, ⟨SL zH.out⟩, ⟨BL zJ.out⟩, ⟨BL zG.out⟩, ⟨by repeat (first | (with_reducible first | exact HI0.out | apply IsS93.alloc | apply IsS93.drewN | apply IsS93.drew | apply IsS93.set_1 | apply IsS93.set_2 | apply IsS93.set_3 | refine IsS93.far ?_ zN.out _ | refine IsS93.far ?_ zL.out _) | exact HI0.out)⟩, ⟨by repeat (first | (with_reducible first | exact HK.out | apply KeepBut.set_ | apply zx | apply zy | apply zw | refine zu ?_ GW250.out _ | refine zu ?_ GW260.out _) | exact HK.out)⟩, ⟨by repeat (first | (with_reducible first | exact HB.out | apply belx_alloc | apply belx_drewN | apply belx_drew | refine belx_set ?_ zP.out | refine belx_set ?_ zQ.out | apply belx_setg) | exact HB.out)⟩⟩
       case rest =>
        clear HC43
        try clear c1
        try clear c2
        try clear p2
        try clear c3
        try clear c4
        try clear c5
        try clear c6
        try clear p6
        try clear c9
        try clear c10
        try clear c14
        try clear c14b0
        try clear c14b1
        try clear c15
        try clear c16
        try clear c17
        try clear c23
        try clear c23b0
        try clear c23b1
        try clear c27
        try clear c28
        try clear c31
        try clear c31b0
        try clear c31b1
        try clear c34
        try clear c34b0
        try clear c34b1
        try clear c35
        try clear c35b0
        try clear c35b1
        try clear c36
        try clear c40
        try clear c41
        try clear c44
        try clear c44b0
        try clear c44b1
        try clear c48
        try clear c48b0
        try clear c48b1
        try clear c49
        try clear c49b0
        try clear c49b1
        try clear c50
        try clear zW
        try clear zX
        try clear zab
        try clear zbb
        try clear zeb
        try clear zfb
        try clear zib
        try clear zjb
        try clear zmb
        try clear znb
        try clear zY
        try clear zZ
        try clear zcb
        try clear zdb
        try clear zgb
        try clear zhb
        try clear zkb
        try clear zlb
        try clear zob
        try clear zpb
        try clear p2
        try clear p6
        obtain ⟨kq, x1001_42, x1002_42, x1003_42, x261001_42, u261001, HA, HJ42, zI, zH, zJ, zG, HI0, HK, HB⟩ := hcut
        cases kq with
        | zero => exact absurd HA.out (by simp [spec_l1DrawDisk.j3])
        | succ kj42 =>
         have H := HA.out
         clear HA
         simp only [spec_l1DrawDisk.j3] at H
         have HC60 := Aside0.mk H
         clear H
         go_upto_if 45 with (fail)
         go_cut [] (fun wc => ∃ (kq : Nat) (x261001_59 : List (S45)) (u261001 : Value), Aside0 (spec_l1DrawDisk.j4 kq t261 s0_0 x1001_42 x1002_42 x1003_42 x261000_29 x261001_59 = some (r1, r2, r3, r4, r5)) ∧ Aside0 (kq ≤ kj42) ∧ Aside0 (Kd.R (Kd.int .u8) 5 wc w.heap.size (fun _ => True) u261000 x261000_29) ∧ Aside0 (Kd.S k45 45 wc w.heap.size (fun k_ => some k_ ≠ (u261000 : Value).ownBlock) u261001 x261001_59) ∧ Aside0 (wc.heap[zM]? = some (.cells #[(.slice none 0 0), (.slice none 0 0)] 35 (0, 0))) ∧ Aside0 (wc.heap[zK]? = some (.cells #[u261000, u261001] 35 (0, 0))) ∧ Aside0 (IsS93 w0 wc g s0_0 x1001_42 x1002_42 x1003_42) ∧ Aside0 (KeepBut w wc g none) ∧ Aside0 (BelX g w0 wc))
         case first =>
          have H := HC60.out
          clear HC60
          by_cases c61 : t261 = 4
          ·rw [if_pos c61] at H
           have c61b0 : (t261 == 4) = true := beq_iff_eq.mpr c61
           have c61b1 : (t261 != 4) = false := bne_eq_false_iff_eq.mpr c61
           clear c61
           (first | rw [c61b0] | (simp only [zp, zq]; rw [c61b0]) | skip)
           by_cases c62 : 64 ≤ 281474976710656
           ·rw [if_pos c62] at H
            have c62b0 := eq_true c62
            have c62b1 : decide (64 ≤ 281474976710656) = true := decide_eq_true c62
            clear c62
            obtain ⟨y292, hy292⟩ : ∃ y_ : List Int, y_ = (List.replicate 64 0) := ⟨_, rfl⟩
            replace H : (if x261001_42.length < 4398046511104 then (spec_l1DrawDisk.j4 kj42 t261 s0_0 x1001_42 x1002_42 x1003_42 x261000_29 (x261001_42 ++ [(⟨(-1), y292⟩ : S45)])) else (none)) = some (r1, r2, r3, r4, r5) := by first | (rw [hy292]; with_reducible exact H) | (have H2_ := (Option.bind_some _ _).symm.trans H; rw [hy292]; with_reducible exact H2_) | (have H2_ := (Option.bind_some _ _).symm.trans H; with_reducible exact H2_) | with_reducible exact H | (rw [hy292]; exact H) | exact H
            have Ny292 := Aside0.mk hy292
            clear hy292
            by_cases c63 : x261001_42.length < 4398046511104
            ·rw [if_pos c63] at H
             have LMc63 := Aside0.mk c63
             clear c63
             obtain ⟨y295, hy295⟩ : ∃ y_ : List (S45), y_ = (x261001_42 ++ [(⟨(-1), y292⟩ : S45)]) := ⟨_, rfl⟩
             replace H : (spec_l1DrawDisk.j4 kj42 t261 s0_0 x1001_42 x1002_42 x1003_42 x261000_29 y295) = some (r1, r2, r3, r4, r5) := by first | (rw [hy295]; with_reducible exact H) | (have H2_ := (Option.bind_some _ _).symm.trans H; rw [hy295]; with_reducible exact H2_) | (have H2_ := (Option.bind_some _ _).symm.trans H; with_reducible exact H2_) | with_reducible exact H | (rw [hy295]; exact H) | exact H
             have Ny295 := Aside0.mk hy295
             clear hy295
             have H' := Aside0.mk H
             clear H
             try go_wp2
             have n0_ := Aside0.mk (Kd.R_drew zI.out)
             have n1_ := Aside0.mk (Kd.S_drew zH.out)
             have n2_ := Aside0.mk (zg zJ.out)
             have n3_ := Aside0.mk (zg zG.out)
             have n4_ := Aside0.mk (IsS93.drew HI0.out)
             have n5_ := Aside0.mk (zy HK.out)
             have n6_ := Aside0.mk (belx_drew HB.out)
             clear zI
             clear zH
             clear zJ
             clear zG
             clear HI0
             clear HK
             clear HB
             have zI := n0_
             have zH := n1_
             have zJ := n2_
             have zG := n3_
             have HI0 := n4_
             have HK := n5_
             have HB := n6_
             clear n0_ n1_ n2_ n3_ n4_ n5_ n6_
             refine start_ (n := 8) (S := fun w' => w'.cell? ⟨zK, 0, none⟩ = some (u261000) ∧ w'.cell? ⟨zK, 1, none⟩ = some (u261001)) (ds := [7]) #[false, false, false, false, false, false, false, false] (by kernel_rfl) rfl rfl ⟨(zb zG.out 0).trans rfl, (zb zG.out 1).trans rfl⟩ (fun hHeld => ?_); refine with_tabW spec_l1DrawDisk.tab12 spec_l1DrawDisk.bits12 (fun HT_ HW_ => ?_)
             generalize wc.drew = w64 at zI zH zJ zG HI0 HK HB hHeld ⊢
             refine zA (i := 0) (N := some 46) (v := ?_) (a' := ?_) #[true, false, false, false, false, false, false, false] rfl rfl (zB HT_.out (by kernel_rfl)) (fun _ _ _ h => h) (Or.inl ⟨by rfl, ?_⟩) ?_ ?_
             rotate_left
             ·intro w'
              go_simp
              with_reducible rfl
             rotate_left
             ·simp only [Act.put, List.setIfInBounds_toArray, List.set_cons_zero, List.set_cons_succ, zp, zq]
              rfl
             refine take_ (i := 1) (N := some 47) (v := ?_) (a' := ?_) #[true, true, false, false, false, false, false, false] rfl rfl (take_ofW HT_.out HW_.out (by kernel_rfl)) (fun _ _ _ h => h) (Or.inl ⟨by rfl, ?_⟩) hHeld ?_ ?_
             rotate_left
             ·rintro w' ⟨s0, s1⟩
              go_simp
              with_reducible rfl
             rotate_left
             ·simp only [Act.put, List.setIfInBounds_toArray, List.set_cons_zero, List.set_cons_succ, zp, zq]
              rfl
             refine one_ (i := 2) (N := some 48) #[true, true, true, false, false, false, false, false] rfl rfl (one_of HT_.out (by kernel_rfl)) (by decide) (fun K hK => ?_)
             refine Kd.R_make_step (Kd.int .u8) _ 5 (by rfl) (N := 48) rfl 22 _ _ rfl 64 rfl rfl Try.underlying22 (.int .u8 0) 1 info5 rfl (by decide) (by omega) 0 (ok := fun _ => True) (okp := fun _ => True) rfl (fun _ hk => hk) trivial (by omega) (by omega) (Below.refl _ _) (Nat.le_refl _) ?_
             intro v293 w65 ztb hb hg_ hnew_
             clear hg_ hnew_
             (first | rw [← Ny292.out] at ztb | (simp only [Int.reduceToNat] at ztb; rw [← Ny292.out] at ztb))
             have n0_ := Aside0.mk (Kd.R_elder' (RL zI.out) (Kd.R_base ztb) hb)
             have n1_ := Aside0.mk (Kd.S_elder' (SL zH.out) (Kd.R_base ztb) hb)
             have n2_ := Aside0.mk (Kd.R_lower (Kd.R_new' ztb (Kd.R_lt (RL zI.out))) (keep_size (w := w) (g := g) (row := none) (by repeat (first | (with_reducible first | exact HK.out | apply KeepBut.set_ | apply zx | apply zy | apply zw | refine zu ?_ GW250.out _ | refine zu ?_ GW260.out _) | exact HK.out))))
             have n3_ := Aside0.mk (zl (g := zM) (o := .cells #[.slice none 0 0, .slice none 0 0] 35 (0, 0)) (BL zJ.out) hb)
             have n4_ := Aside0.mk (zl (g := zK) (o := .cells #[u261000, u261001] 35 (0, 0)) (BL zG.out) hb)
             have n5_ := Aside0.mk (IsS93.below (by repeat (first | (with_reducible first | exact HI0.out | apply IsS93.alloc | apply IsS93.drewN | apply IsS93.drew | apply IsS93.set_1 | apply IsS93.set_2 | apply IsS93.set_3 | refine IsS93.far ?_ zN.out _ | refine IsS93.far ?_ zL.out _) | exact HI0.out)) hb)
             have n6_ := Aside0.mk (KeepBut.trans (by repeat (first | (with_reducible first | exact HK.out | apply KeepBut.set_ | apply zx | apply zy | apply zw | refine zu ?_ GW250.out _ | refine zu ?_ GW260.out _) | exact HK.out)) (KeepBut.of_below hb g none) (.inl rfl))
             have n7_ := Aside0.mk (belx_step (g := g) (w0 := w0) (by repeat (first | (with_reducible first | exact HB.out | apply belx_alloc | apply belx_drewN | apply belx_drew | refine belx_set ?_ zP.out | refine belx_set ?_ zQ.out | apply belx_setg) | exact HB.out)) hb)
             clear zI
             clear zH
             clear zJ
             clear zG
             clear HI0
             clear HK
             clear HB
             have zI := n0_
             have zH := n1_
             have zwb := n2_
             have zJ := n3_
             have zG := n4_
             have HI0 := n5_
             have HK := n6_
             have HB := n7_
             clear n0_ n1_ n2_ n3_ n4_ n5_ n6_ n7_
             clear hb ztb
             obtain ⟨Ao67, co67, eo67⟩ := Kd.R_slice zwb.out
             (first | subst eo67 | (injection eo67 with f1_ f2_ f3_; have f4_ := f1_.symm; have f5_ := f3_.symm; clear f1_ f2_ f3_; subst f4_; subst f5_))
             refine hK.out _ _ ⟨(zb zG.out 0).trans rfl, (zb zG.out 1).trans rfl⟩ (fun hHeld => ?_)
             clear hK K
             refine norm_ (a' := ?_) ?_ ?_
             rotate_left
             ·show Act.put _ (some 48) _ = _
              simp only [Act.put, List.setIfInBounds_toArray, List.set_cons_zero, List.set_cons_succ, zp, zq]
              rfl
             refine zA (i := 3) (N := some 49) (v := ?_) (a' := ?_) #[true, true, true, true, false, false, false, false] rfl rfl (zB HT_.out (by kernel_rfl)) (fun _ _ _ h => h) (Or.inl ⟨by rfl, ?_⟩) ?_ ?_
             rotate_left
             ·intro w'
              go_simp
              with_reducible rfl
             rotate_left
             ·simp only [Act.put, List.setIfInBounds_toArray, List.set_cons_zero, List.set_cons_succ, zp, zq]
              rfl
             refine one_ (i := 4) (N := some 50) #[true, true, true, true, true, false, false, false] rfl rfl (one_of HT_.out (by kernel_rfl)) (by decide) (fun K hK => ?_)
             refine value_ (w1 := ?_) (v := ?_) (by rfl) rfl ?_ ?_
             rotate_left 2
             ·go_simp
              constructor
              ·rfl
              ·rfl
             refine hK.out _ _ ⟨(zb (zh zG.out _) 0).trans rfl, (zb (zh zG.out _) 1).trans rfl⟩ (fun hHeld => ?_)
             clear hK K
             refine norm_ (a' := ?_) ?_ ?_
             rotate_left
             ·show Act.put _ (some 50) _ = _
              simp only [Act.put, List.setIfInBounds_toArray, List.set_cons_zero, List.set_cons_succ, zp, zq]
              rfl
             refine one_ (i := 5) (N := some 51) #[true, true, true, true, true, true, false, false] rfl rfl (one_of HT_.out (by kernel_rfl)) (by decide) (fun K hK => ?_)
             refine Kd.S_append_step k45 w.heap.size (by rfl) (.tmp 47) (.tmp 50) 33 45 (.agg #[(.int .i64 0), (.slice none 0 0)]) 32 rfl Try.underlying33 info45 rfl (by decide) (by omega) u261001 x261001_42 (⟨(-1), y292⟩ : S45) [.int .i64 (-1), .slice Ao67 y292.length co67] (fun k_ => some k_ ≠ (u261000 : Value).ownBlock) (fun k_ => some k_ = (.slice Ao67 y292.length co67 : Value).ownBlock) rfl rfl ?aP (fun k_ hk_ => ((Kd.R_mono (ok' := fun k_ => ((fun k_ => some k_ ≠ (u261000 : Value).ownBlock)) k_ ∧ some k_ ≠ (u261001 : Value).ownBlock) (Kd.R_apart' (zwb.out) (Kd.S_typed zH.out) (by decide)) (fun k_ hk => ⟨hk.1.2, hk.2⟩))).1 k_ hk_.symm) ?aF ?aO (Below.refl _ _) ?aS ?aL ?_
             (case aP => exact k45_mkM _ _ _ (⟨(-1), y292⟩ : S45) (Kd.R_mono (Kd.R_tight rfl (Kd.R_mono (ok' := fun k_ => ((fun k_ => some k_ ≠ (u261000 : Value).ownBlock)) k_ ∧ some k_ ≠ (u261001 : Value).ownBlock) (Kd.R_apart' (zwb.out) (Kd.S_typed zH.out) (by decide)) (fun k_ hk => ⟨hk.1.2, hk.2⟩))) (fun _ h_ => h_)))
             (case aF => exact (fun k_ hk => Kd.fresh' (Kd.R_lt (RL zI.out)) k_ hk))
             (case aO => exact (SL (Kd.S_mono zH.out (fun k_ hk => ⟨hk.1, fun e_ => hk.2 e_⟩))))
             (case aS => exact (keep_size (w := w) (g := g) (row := none) (by repeat (first | (with_reducible first | exact HK.out | apply KeepBut.set_ | apply zx | apply zy | apply zw | refine zu ?_ GW250.out _ | refine zu ?_ GW260.out _) | exact HK.out))))
             (case aL => have := LMc63.out; omega)
             intro v296 w68 ho hb hg hat
             rw [← Ny295.out] at ho
             have n0_ := Aside0.mk (Kd.R_over' (RL zI.out) (Kd.S_typed (SL zH.out)) (by decide) hg)
             have n1_ := Aside0.mk (zD (g := zM) (o := .cells #[.slice none 0 0, .slice none 0 0] 35 (0, 0)) (BL zJ.out) hg (Kd.S_ne zH.out zJ.out (by decide)))
             have n2_ := Aside0.mk (zD (g := zK) (o := .cells #[u261000, u261001] 35 (0, 0)) (BL zG.out) hg (Kd.S_ne zH.out zG.out (by decide)))
             have n3_ := Aside0.mk (IsS93.grown (by repeat (first | (with_reducible first | exact HI0.out | apply IsS93.alloc | apply IsS93.drewN | apply IsS93.drew | apply IsS93.set_1 | apply IsS93.set_2 | apply IsS93.set_3 | refine IsS93.far ?_ zN.out _ | refine IsS93.far ?_ zL.out _) | exact HI0.out)) hg (IsS93.own_neS HI0.out zH.out (by decide)))
             have n4_ := Aside0.mk (belx_weaken (g := g) (w0 := w0) (by repeat (first | (with_reducible first | exact HB.out | apply belx_alloc | apply belx_drewN | apply belx_drew | refine belx_set ?_ zP.out | refine belx_set ?_ zQ.out | apply belx_setg) | exact HB.out)) HL.out hb)
             have n5_ := Aside0.mk (KeepBut.trans (by repeat (first | (with_reducible first | exact HK.out | apply KeepBut.set_ | apply zx | apply zy | apply zw | refine zu ?_ GW250.out _ | refine zu ?_ GW260.out _) | exact HK.out)) (KeepBut.of_grown hg g) (Kd.S_base2 zH.out))
             have n6_ := Aside0.mk (ho)
             clear zI
             clear zJ
             clear zG
             clear HI0
             clear HB
             clear HK
             clear zH
             clear zwb
             have zI := n0_
             have zJ := n1_
             have zG := n2_
             have HI0 := n3_
             have HB := n4_
             have HK := n5_
             have zCb := n6_
             clear n0_ n1_ n2_ n3_ n4_ n5_ n6_
             clear ho hb hg hat
             obtain ⟨Ao69, co69, eo69⟩ := Kd.S_slice zCb.out
             (first | subst eo69 | (injection eo69 with f1_ f2_ f3_; have f4_ := f1_.symm; have f5_ := f3_.symm; clear f1_ f2_ f3_; subst f4_; subst f5_))
             refine hK.out _ _ ⟨(zb zG.out 0).trans rfl, (zb zG.out 1).trans rfl⟩ (fun hHeld => ?_)
             clear hK K
             refine norm_ (a' := ?_) ?_ ?_
             rotate_left
             ·show Act.put _ (some 51) _ = _
              simp only [Act.put, List.setIfInBounds_toArray, List.set_cons_zero, List.set_cons_succ, zp, zq]
              rfl
             refine zA (i := 6) (N := some 52) (v := ?_) (a' := ?_) #[true, true, true, true, true, true, true, false] rfl rfl (zB HT_.out (by kernel_rfl)) (fun _ _ _ h => h) (Or.inl ⟨by rfl, ?_⟩) ?_ ?_
             rotate_left
             ·intro w'
              go_simp
              with_reducible rfl
             rotate_left
             ·simp only [Act.put, List.setIfInBounds_toArray, List.set_cons_zero, List.set_cons_succ, zp, zq]
              rfl
             refine last_ (i := 7) (N := none) #[true, true, true, true, true, true, true, true] rfl rfl (one_of HT_.out (by kernel_rfl)) (by decide) (fun K hK => ?_)
             have hs70 : w68.cell? ⟨zK, 1, none⟩ = some (u261001) := (zb zG.out 1).trans rfl
             have hfs70 := zd zG.out 1
             have hns70_0 := zO.out
             have hms70_0 := zR.out
             refine skip_ (w1 := ?_) (by rfl) rfl ?_ ?_
             rotate_left
             ·go_simp
              rfl
             refine hK.out _ _ ?_
             clear hK K
             refine done_ (done_of HT_.out (by kernel_rfl)) ?_
             try go_wp2
             go_meet
             case rel => exact ⟨_, (y295), (.slice Ao69 y295.length co69), H', ⟨by have := HJ3.out; have := HJ21.out; have := HJ29.out; have := HJ42.out; first | omega | exact Nat.le_refl _⟩, ⟨RL (Kd.R_mono (Kd.R_far (p := ⟨zK, 1, none⟩) (Kd.R_types zI.out zG.out (by decide)) (fun _ hk => hk.2) (.slice Ao69 y295.length co69)) (fun _ hk => trivial))⟩, ⟨SL (Kd.S_mono (Kd.S_far (p := ⟨zK, 1, none⟩) (Kd.S_types zCb.out zG.out (by decide)) (fun _ hk => hk.2) (.slice Ao69 y295.length co69)) (fun _ hk => hk.1))⟩, ⟨by (with_reducible repeat (first | refine zj ?_ _ | refine zg ?_ | refine zh ?_ _)); refine zE ?_ zO.out _; (with_reducible repeat (first | refine zj ?_ _ | refine zg ?_ | refine zh ?_ _)); exact zJ.out⟩, ⟨by (with_reducible repeat (first | refine zj ?_ _ | refine zg ?_ | refine zh ?_ _)); refine zz (cs := #[u261000, u261001]) ?_ 1 _ rfl; (with_reducible repeat (first | refine zj ?_ _ | refine zg ?_ | refine zh ?_ _)); exact zG.out⟩, ⟨by repeat (first | (with_reducible first | exact HI0.out | apply IsS93.alloc | apply IsS93.drewN | apply IsS93.drew | apply IsS93.set_1 | apply IsS93.set_2 | apply IsS93.set_3 | refine IsS93.far ?_ zN.out _ | refine IsS93.far ?_ zL.out _) | exact HI0.out)⟩, ⟨by repeat (first | (with_reducible first | exact HK.out | apply KeepBut.set_ | apply zx | apply zy | apply zw | refine zu ?_ GW250.out _ | refine zu ?_ GW260.out _) | exact HK.out)⟩, ⟨by repeat (first | (with_reducible first | exact HB.out | apply belx_alloc | apply belx_drewN | apply belx_drew | refine belx_set ?_ zP.out | refine belx_set ?_ zQ.out | apply belx_setg) | exact HB.out)⟩⟩
            ·rw [if_neg c63] at H
             exact absurd H (by simp)
           ·rw [if_neg c62] at H
            exact absurd H (by simp)
          ·rw [if_neg c61] at H
           have c61b0 : (t261 == 4) = false := beq_eq_false_iff_ne.mpr c61
           have c61b1 : (t261 != 4) = true := bne_iff_ne.mpr c61
           (first | rw [c61b0] | (simp only [zp, zq]; rw [c61b0]) | skip)
           have H' := Aside0.mk H
           clear H
           go_wp2
           go_meet
           case rel => exact ⟨_, (x261001_42), (u261001), H', ⟨by have := HJ3.out; have := HJ21.out; have := HJ29.out; have := HJ42.out; first | omega | exact Nat.le_refl _⟩, ⟨RL zI.out⟩, ⟨SL zH.out⟩, ⟨BL zJ.out⟩, ⟨BL zG.out⟩, ⟨by repeat (first | (with_reducible first | exact HI0.out | apply IsS93.alloc | apply IsS93.drewN | apply IsS93.drew | apply IsS93.set_1 | apply IsS93.set_2 | apply IsS93.set_3 | refine IsS93.far ?_ zN.out _ | refine IsS93.far ?_ zL.out _) | exact HI0.out)⟩, ⟨by repeat (first | (with_reducible first | exact HK.out | apply KeepBut.set_ | apply zx | apply zy | apply zw | refine zu ?_ GW250.out _ | refine zu ?_ GW260.out _) | exact HK.out)⟩, ⟨by repeat (first | (with_reducible first | exact HB.out | apply belx_alloc | apply belx_drewN | apply belx_drew | refine belx_set ?_ zP.out | refine belx_set ?_ zQ.out | apply belx_setg) | exact HB.out)⟩⟩
         case rest =>
          clear HC60
          try clear c1
          try clear c2
          try clear p2
          try clear c3
          try clear c4
          try clear c5
          try clear c6
          try clear p6
          try clear c9
          try clear c10
          try clear c14
          try clear c14b0
          try clear c14b1
          try clear c15
          try clear c16
          try clear c17
          try clear c23
          try clear c23b0
          try clear c23b1
          try clear c27
          try clear c28
          try clear c31
          try clear c31b0
          try clear c31b1
          try clear c34
          try clear c34b0
          try clear c34b1
          try clear c35
          try clear c35b0
          try clear c35b1
          try clear c36
          try clear c40
          try clear c41
          try clear c44
          try clear c44b0
          try clear c44b1
          try clear c48
          try clear c48b0
          try clear c48b1
          try clear c49
          try clear c49b0
          try clear c49b1
          try clear c50
          try clear c61
          try clear c61b0
          try clear c61b1
          try clear c62
          try clear c62b0
          try clear c62b1
          try clear c63
          try clear p64
          try clear zW
          try clear zX
          try clear zab
          try clear zbb
          try clear zeb
          try clear zfb
          try clear zib
          try clear zjb
          try clear zmb
          try clear znb
          try clear zY
          try clear zZ
          try clear zcb
          try clear zdb
          try clear zgb
          try clear zhb
          try clear zkb
          try clear zlb
          try clear zob
          try clear zpb
          try clear p2
          try clear p6
          obtain ⟨kq, x261001_59, u261001, HA, HJ59, zI, zH, zJ, zG, HI0, HK, HB⟩ := hcut
          cases kq with
          | zero => exact absurd HA.out (by simp [spec_l1DrawDisk.j4])
          | succ kj59 =>
           have H := HA.out
           clear HA
           simp only [spec_l1DrawDisk.j4] at H
           by_cases c71 : t261 = 5
           ·rw [if_pos c71] at H
            have c71b0 : (t261 == 5) = true := beq_iff_eq.mpr c71
            have c71b1 : (t261 != 5) = false := bne_eq_false_iff_eq.mpr c71
            clear c71
            replace H := Option.bind_eq_some_iff.mp H
            obtain ⟨⟨t298, t299, t300, t301⟩, A720, H⟩ := H
            replace H : (spec_l1DrawDisk.l0 kj59 (wrap64 (1999 + t298)) s0_0 t299 t300 t301 x261000_29 x261001_59) = some (r1, r2, r3, r4, r5) := H
            have A72 := Aside0.mk A720
            clear A720
            have H' := Aside0.mk H
            clear H
            go_wp2_with (first | ((with_reducible refine zo (f := 36) rfl ?_); refine zC (some 56) rfl rfl Try.func36 (by kernel_rfl) rfl #[.pointer (some ⟨g, 0, none⟩), .int .i64 3] rfl (by (try simp only [List.map_toArray, List.map_cons, List.map_nil]); first | done | rfl) ?_; (with_reducible refine (spec_l1Next.calls g s0_0 x1001_42 x1002_42 x1003_42 3 t298 t299 t300 t301 w0 _ ?side1 ?side2 A72.out).mono ?_); (case side1 => exact IsS93.l HI0.out); (case side2 => exact bx HB.out); rintro e w73 ⟨rfl, hi, hb, hk⟩; refine ⟨_, rfl, ?_⟩; have n0_ := Aside0.mk (Kd.R_mono (Kd.R_keep (IsS93.apart (show IsS93 w0 _ g s0_0 x1001_42 x1002_42 x1003_42 from by exact IsS93.l HI0.out) (RL zI.out) (by decide)) hk (fun _ h => h.2)) (fun _ h => h.1)); have n1_ := Aside0.mk (Kd.S_mono (Kd.S_keep (IsS93.apartS (show IsS93 w0 _ g s0_0 x1001_42 x1002_42 x1003_42 from by exact IsS93.l HI0.out) (SL zH.out) (by decide)) hk (fun _ h => h.2)) (fun _ h => h.1)); have n2_ := Aside0.mk (KeepBut.blk hk (g' := zM) (o := .cells #[.slice none 0 0, .slice none 0 0] 35 (0, 0)) (BL zJ.out) zV.out (by simp)); have n3_ := Aside0.mk (KeepBut.blk hk (g' := zK) (o := .cells #[u261000, u261001] 35 (0, 0)) (BL zG.out) zS.out (by simp)); have n4_ := Aside0.mk (KeepBut.trans (by exact kx HK.out) hk (.inl rfl)); have n5_ := Aside0.mk (hb); have n6_ := Aside0.mk (hi); clear zI; clear zH; clear zJ; clear zG; clear HK; clear HB; clear HI0; have zI := n0_; have zH := n1_; have zJ := n2_; have zG := n3_; have HK := n4_; have HB := n5_; have HI0 := n6_; clear n0_ n1_ n2_ n3_ n4_ n5_ n6_; (try clear hb); (try clear hb2); (try clear hk); (try clear hi)))
            go_loopg [] kj59 (fun kq w' => ∃ (x261001_6 : List (S45)) (u261001 : Value), Aside0 (spec_l1DrawDisk.l0 kq (wrap64 (1999 + t298)) s0_0 t299 t300 t301 x261000_29 x261001_6 = some (r1, r2, r3, r4, r5)) ∧ Aside0 (kq ≤ kj59) ∧ Aside0 (Kd.R (Kd.int .u8) 5 w' w.heap.size (fun _ => True) u261000 x261000_29) ∧ Aside0 (Kd.S k45 45 w' w.heap.size (fun k_ => some k_ ≠ (u261000 : Value).ownBlock) u261001 x261001_6) ∧ Aside0 (w'.heap[zM]? = some (.cells #[(.slice none 0 0), (.slice none 0 0)] 35 (0, 0))) ∧ Aside0 (w'.heap[zK]? = some (.cells #[u261000, u261001] 35 (0, 0))) ∧ Aside0 (IsS93 w0 w' g s0_0 t299 t300 t301) ∧ Aside0 (KeepBut w w' g none) ∧ Aside0 (BelX g w0 w'))
            case atStart => exact ⟨(x261001_59), (u261001), H', ⟨Nat.le_refl _⟩, ⟨RL zI.out⟩, ⟨SL zH.out⟩, ⟨BL zJ.out⟩, ⟨BL zG.out⟩, ⟨by repeat (first | (with_reducible first | exact HI0.out | apply IsS93.alloc | apply IsS93.drewN | apply IsS93.drew | apply IsS93.set_1 | apply IsS93.set_2 | apply IsS93.set_3 | refine IsS93.far ?_ zN.out _ | refine IsS93.far ?_ zL.out _) | exact HI0.out)⟩, ⟨by repeat (first | (with_reducible first | exact HK.out | apply KeepBut.set_ | apply zx | apply zy | apply zw | refine zu ?_ GW250.out _ | refine zu ?_ GW260.out _) | exact HK.out)⟩, ⟨by repeat (first | (with_reducible first | exact HB.out | apply belx_alloc | apply belx_drewN | apply belx_drew | refine belx_set ?_ zP.out | refine belx_set ?_ zQ.out | apply belx_setg) | exact HB.out)⟩⟩
            case round =>
             clear H'
             try clear c1
             try clear c2
             try clear p2
             try clear c3
             try clear c4
             try clear c5
             try clear c6
             try clear p6
             try clear c7
             try clear c9
             try clear c10
             try clear c14
             try clear c14b0
             try clear c14b1
             try clear c15
             try clear c16
             try clear c17
             try clear c23
             try clear c23b0
             try clear c23b1
             try clear c27
             try clear c28
             try clear c31
             try clear c31b0
             try clear c31b1
             try clear c34
             try clear c34b0
             try clear c34b1
             try clear c35
             try clear c35b0
             try clear c35b1
             try clear c36
             try clear c40
             try clear c41
             try clear c44
             try clear c44b0
             try clear c44b1
             try clear c48
             try clear c48b0
             try clear c48b1
             try clear c49
             try clear c49b0
             try clear c49b1
             try clear c50
             try clear c61
             try clear c61b0
             try clear c61b1
             try clear c62
             try clear c62b0
             try clear c62b1
             try clear c63
             try clear p64
             try clear c71
             try clear c71b0
             try clear c71b1
             try clear zW
             try clear zX
             try clear zab
             try clear zbb
             try clear zeb
             try clear zfb
             try clear zib
             try clear zjb
             try clear zmb
             try clear znb
             try clear zY
             try clear zZ
             try clear zcb
             try clear zdb
             try clear zgb
             try clear zhb
             try clear zkb
             try clear zlb
             try clear zob
             try clear zpb
             try clear p2
             try clear p6
             try clear p64
             obtain ⟨x261001_6, u261001, HA, HK6, zI, zH, zJ, zG, HI0, HK, HB⟩ := hrel
             cases gk with
             | zero => exact absurd HA.out (by simp [spec_l1DrawDisk.l0])
             | succ k6 =>
              have H := HA.out
              clear HA
              simp only [spec_l1DrawDisk.l0] at H
              by_cases c74 : (x261001_6.length : Int) < (wrap64 (1999 + t298))
              ·rw [if_pos c74] at H
               have c74b0 : decide ((x261001_6.length : Int) < (wrap64 (1999 + t298))) = true := decide_eq_true c74
               clear c74
               by_cases c75 : 64 ≤ 281474976710656
               ·rw [if_pos c75] at H
                have c75b0 := eq_true c75
                have c75b1 : decide (64 ≤ 281474976710656) = true := decide_eq_true c75
                clear c75
                obtain ⟨y302, hy302⟩ : ∃ y_ : List Int, y_ = (List.replicate 64 0) := ⟨_, rfl⟩
                replace H : (if x261001_6.length < 4398046511104 then (spec_l1DrawDisk.l0 k6 (wrap64 (1999 + t298)) s0_0 t299 t300 t301 x261000_29 (x261001_6 ++ [(⟨0, y302⟩ : S45)])) else (none)) = some (r1, r2, r3, r4, r5) := by first | (rw [hy302]; with_reducible exact H) | (have H2_ := (Option.bind_some _ _).symm.trans H; rw [hy302]; with_reducible exact H2_) | (have H2_ := (Option.bind_some _ _).symm.trans H; with_reducible exact H2_) | with_reducible exact H | (rw [hy302]; exact H) | exact H
                have Ny302 := Aside0.mk hy302
                clear hy302
                by_cases c76 : x261001_6.length < 4398046511104
                ·rw [if_pos c76] at H
                 have LMc76 := Aside0.mk c76
                 clear c76
                 obtain ⟨y305, hy305⟩ : ∃ y_ : List (S45), y_ = (x261001_6 ++ [(⟨0, y302⟩ : S45)]) := ⟨_, rfl⟩
                 replace H : (spec_l1DrawDisk.l0 k6 (wrap64 (1999 + t298)) s0_0 t299 t300 t301 x261000_29 y305) = some (r1, r2, r3, r4, r5) := by first | (rw [hy305]; with_reducible exact H) | (have H2_ := (Option.bind_some _ _).symm.trans H; rw [hy305]; with_reducible exact H2_) | (have H2_ := (Option.bind_some _ _).symm.trans H; with_reducible exact H2_) | with_reducible exact H | (rw [hy305]; exact H) | exact H
                 have Ny305 := Aside0.mk hy305
                 clear hy305
                 have H' := Aside0.mk H
                 clear H
                 have zoc := zR.out
                 have zpc := zO.out
                 have zqc := zS.out
                 have zrc := zL.out
                 have zKb : wr.cell? ⟨zK, 0, none⟩ = some (u261000) := (zb zG.out 0).trans rfl
                 have zLb : wr.cell? ⟨zK, 1, none⟩ = some (u261001) := (zb zG.out 1).trans rfl
                 have zMb := zd zG.out 0
                 have zNb := zd zG.out 1
                 obtain ⟨Ao80, co80, eo80⟩ := Kd.S_slice zH.out
                 subst eo80
                 try go_wp2
                 have n0_ := Aside0.mk (Kd.R_drew zI.out)
                 have n1_ := Aside0.mk (Kd.S_drew zH.out)
                 have n2_ := Aside0.mk (zg zJ.out)
                 have n3_ := Aside0.mk (zg zG.out)
                 have n4_ := Aside0.mk (IsS93.drew HI0.out)
                 have n5_ := Aside0.mk (zy HK.out)
                 have n6_ := Aside0.mk (belx_drew HB.out)
                 clear zI
                 clear zH
                 clear zJ
                 clear zG
                 clear HI0
                 clear HK
                 clear HB
                 have zI := n0_
                 have zH := n1_
                 have zJ := n2_
                 have zG := n3_
                 have HI0 := n4_
                 have HK := n5_
                 have HB := n6_
                 clear n0_ n1_ n2_ n3_ n4_ n5_ n6_
                 refine start_ (n := 8) (S := fun w' => w'.cell? ⟨zK, 0, none⟩ = some (u261000) ∧ w'.cell? ⟨zK, 1, none⟩ = some (.slice Ao80 x261001_6.length co80)) (ds := [7]) #[false, false, false, false, false, false, false, false] (by kernel_rfl) rfl rfl ⟨(zb zG.out 0).trans rfl, (zb zG.out 1).trans rfl⟩ (fun hHeld => ?_); refine with_tabW spec_l1DrawDisk.tab16 spec_l1DrawDisk.bits16 (fun HT_ HW_ => ?_)
                 generalize wr.drew = w81 at zI zH zJ zG HI0 HK HB hHeld ⊢
                 refine zA (i := 0) (N := some 63) (v := ?_) (a' := ?_) #[true, false, false, false, false, false, false, false] rfl rfl (zB HT_.out (by kernel_rfl)) (fun _ _ _ h => h) (Or.inl ⟨by rfl, ?_⟩) ?_ ?_
                 rotate_left
                 ·intro w'
                  go_simp
                  with_reducible rfl
                 rotate_left
                 ·simp only [Act.put, List.setIfInBounds_toArray, List.set_cons_zero, List.set_cons_succ, zp, zq]
                  rfl
                 refine take_ (i := 1) (N := some 64) (v := ?_) (a' := ?_) #[true, true, false, false, false, false, false, false] rfl rfl (take_ofW HT_.out HW_.out (by kernel_rfl)) (fun _ _ _ h => h) (Or.inl ⟨by rfl, ?_⟩) hHeld ?_ ?_
                 rotate_left
                 ·rintro w' ⟨s0, s1⟩
                  go_simp
                  with_reducible rfl
                 rotate_left
                 ·simp only [Act.put, List.setIfInBounds_toArray, List.set_cons_zero, List.set_cons_succ, zp, zq]
                  rfl
                 refine one_ (i := 2) (N := some 65) #[true, true, true, false, false, false, false, false] rfl rfl (one_of HT_.out (by kernel_rfl)) (by decide) (fun K hK => ?_)
                 refine Kd.R_make_step (Kd.int .u8) _ 5 (by rfl) (N := 65) rfl 22 _ _ rfl 64 rfl rfl Try.underlying22 (.int .u8 0) 1 info5 rfl (by decide) (by omega) 0 (ok := fun _ => True) (okp := fun _ => True) rfl (fun _ hk => hk) trivial (by omega) (by omega) (Below.refl _ _) (Nat.le_refl _) ?_
                 intro v303 w82 zub hb hg_ hnew_
                 clear hg_ hnew_
                 (first | rw [← Ny302.out] at zub | (simp only [Int.reduceToNat] at zub; rw [← Ny302.out] at zub))
                 have n0_ := Aside0.mk (Kd.R_elder' (RL zI.out) (Kd.R_base zub) hb)
                 have n1_ := Aside0.mk (Kd.S_elder' (SL zH.out) (Kd.R_base zub) hb)
                 have n2_ := Aside0.mk (Kd.R_lower (Kd.R_new' zub (Kd.R_lt (RL zI.out))) (keep_size (w := w) (g := g) (row := none) (by repeat (first | (with_reducible first | exact HK.out | apply KeepBut.set_ | apply zx | apply zy | apply zw | refine zu ?_ GW250.out _ | refine zu ?_ GW260.out _) | exact HK.out))))
                 have n3_ := Aside0.mk (zl (g := zM) (o := .cells #[.slice none 0 0, .slice none 0 0] 35 (0, 0)) (BL zJ.out) hb)
                 have n4_ := Aside0.mk (zl (g := zK) (o := .cells #[u261000, .slice Ao80 x261001_6.length co80] 35 (0, 0)) (BL zG.out) hb)
                 have n5_ := Aside0.mk (IsS93.below (by repeat (first | (with_reducible first | exact HI0.out | apply IsS93.alloc | apply IsS93.drewN | apply IsS93.drew | apply IsS93.set_1 | apply IsS93.set_2 | apply IsS93.set_3 | refine IsS93.far ?_ zN.out _ | refine IsS93.far ?_ zL.out _) | exact HI0.out)) hb)
                 have n6_ := Aside0.mk (KeepBut.trans (by repeat (first | (with_reducible first | exact HK.out | apply KeepBut.set_ | apply zx | apply zy | apply zw | refine zu ?_ GW250.out _ | refine zu ?_ GW260.out _) | exact HK.out)) (KeepBut.of_below hb g none) (.inl rfl))
                 have n7_ := Aside0.mk (belx_step (g := g) (w0 := w0) (by repeat (first | (with_reducible first | exact HB.out | apply belx_alloc | apply belx_drewN | apply belx_drew | refine belx_set ?_ zP.out | refine belx_set ?_ zQ.out | apply belx_setg) | exact HB.out)) hb)
                 clear zI
                 clear zH
                 clear zJ
                 clear zG
                 clear HI0
                 clear HK
                 clear HB
                 have zI := n0_
                 have zH := n1_
                 have zxb := n2_
                 have zJ := n3_
                 have zG := n4_
                 have HI0 := n5_
                 have HK := n6_
                 have HB := n7_
                 clear n0_ n1_ n2_ n3_ n4_ n5_ n6_ n7_
                 clear hb zub
                 obtain ⟨Ao84, co84, eo84⟩ := Kd.R_slice zxb.out
                 (first | subst eo84 | (injection eo84 with f1_ f2_ f3_; have f4_ := f1_.symm; have f5_ := f3_.symm; clear f1_ f2_ f3_; subst f4_; subst f5_))
                 refine hK.out _ _ ⟨(zb zG.out 0).trans rfl, (zb zG.out 1).trans rfl⟩ (fun hHeld => ?_)
                 clear hK K
                 refine norm_ (a' := ?_) ?_ ?_
                 rotate_left
                 ·show Act.put _ (some 65) _ = _
                  simp only [Act.put, List.setIfInBounds_toArray, List.set_cons_zero, List.set_cons_succ, zp, zq]
                  rfl
                 refine zA (i := 3) (N := some 66) (v := ?_) (a' := ?_) #[true, true, true, true, false, false, false, false] rfl rfl (zB HT_.out (by kernel_rfl)) (fun _ _ _ h => h) (Or.inl ⟨by rfl, ?_⟩) ?_ ?_
                 rotate_left
                 ·intro w'
                  go_simp
                  with_reducible rfl
                 rotate_left
                 ·simp only [Act.put, List.setIfInBounds_toArray, List.set_cons_zero, List.set_cons_succ, zp, zq]
                  rfl
                 refine one_ (i := 4) (N := some 67) #[true, true, true, true, true, false, false, false] rfl rfl (one_of HT_.out (by kernel_rfl)) (by decide) (fun K hK => ?_)
                 refine value_ (w1 := ?_) (v := ?_) (by rfl) rfl ?_ ?_
                 rotate_left 2
                 ·go_simp
                  constructor
                  ·rfl
                  ·rfl
                 refine hK.out _ _ ⟨(zb (zh zG.out _) 0).trans rfl, (zb (zh zG.out _) 1).trans rfl⟩ (fun hHeld => ?_)
                 clear hK K
                 refine norm_ (a' := ?_) ?_ ?_
                 rotate_left
                 ·show Act.put _ (some 67) _ = _
                  simp only [Act.put, List.setIfInBounds_toArray, List.set_cons_zero, List.set_cons_succ, zp, zq]
                  rfl
                 refine one_ (i := 5) (N := some 68) #[true, true, true, true, true, true, false, false] rfl rfl (one_of HT_.out (by kernel_rfl)) (by decide) (fun K hK => ?_)
                 refine Kd.S_append_step k45 w.heap.size (by rfl) (.tmp 64) (.tmp 67) 33 45 (.agg #[(.int .i64 0), (.slice none 0 0)]) 32 rfl Try.underlying33 info45 rfl (by decide) (by omega) (.slice Ao80 x261001_6.length co80) x261001_6 (⟨0, y302⟩ : S45) [.int .i64 0, .slice Ao84 y302.length co84] (fun k_ => some k_ ≠ (u261000 : Value).ownBlock) (fun k_ => some k_ = (.slice Ao84 y302.length co84 : Value).ownBlock) rfl rfl ?aP (fun k_ hk_ => ((Kd.R_mono (ok' := fun k_ => ((fun k_ => some k_ ≠ (u261000 : Value).ownBlock)) k_ ∧ some k_ ≠ (.slice Ao80 x261001_6.length co80 : Value).ownBlock) (Kd.R_apart' (zxb.out) (Kd.S_typed zH.out) (by decide)) (fun k_ hk => ⟨hk.1.2, hk.2⟩))).1 k_ hk_.symm) ?aF ?aO (Below.refl _ _) ?aS ?aL ?_
                 (case aP => exact k45_mkM _ _ _ (⟨0, y302⟩ : S45) (Kd.R_mono (Kd.R_tight rfl (Kd.R_mono (ok' := fun k_ => ((fun k_ => some k_ ≠ (u261000 : Value).ownBlock)) k_ ∧ some k_ ≠ (.slice Ao80 x261001_6.length co80 : Value).ownBlock) (Kd.R_apart' (zxb.out) (Kd.S_typed zH.out) (by decide)) (fun k_ hk => ⟨hk.1.2, hk.2⟩))) (fun _ h_ => h_)))
                 (case aF => exact (fun k_ hk => Kd.fresh' (Kd.R_lt (RL zI.out)) k_ hk))
                 (case aO => exact (SL (Kd.S_mono zH.out (fun k_ hk => ⟨hk.1, fun e_ => hk.2 e_⟩))))
                 (case aS => exact (keep_size (w := w) (g := g) (row := none) (by repeat (first | (with_reducible first | exact HK.out | apply KeepBut.set_ | apply zx | apply zy | apply zw | refine zu ?_ GW250.out _ | refine zu ?_ GW260.out _) | exact HK.out))))
                 (case aL => have := LMc76.out; omega)
                 intro v306 w85 ho hb hg hat
                 rw [← Ny305.out] at ho
                 have n0_ := Aside0.mk (Kd.R_over' (RL zI.out) (Kd.S_typed (SL zH.out)) (by decide) hg)
                 have n1_ := Aside0.mk (zD (g := zM) (o := .cells #[.slice none 0 0, .slice none 0 0] 35 (0, 0)) (BL zJ.out) hg (Kd.S_ne zH.out zJ.out (by decide)))
                 have n2_ := Aside0.mk (zD (g := zK) (o := .cells #[u261000, .slice Ao80 x261001_6.length co80] 35 (0, 0)) (BL zG.out) hg (Kd.S_ne zH.out zG.out (by decide)))
                 have n3_ := Aside0.mk (IsS93.grown (by repeat (first | (with_reducible first | exact HI0.out | apply IsS93.alloc | apply IsS93.drewN | apply IsS93.drew | apply IsS93.set_1 | apply IsS93.set_2 | apply IsS93.set_3 | refine IsS93.far ?_ zN.out _ | refine IsS93.far ?_ zL.out _) | exact HI0.out)) hg (IsS93.own_neS HI0.out zH.out (by decide)))
                 have n4_ := Aside0.mk (belx_weaken (g := g) (w0 := w0) (by repeat (first | (with_reducible first | exact HB.out | apply belx_alloc | apply belx_drewN | apply belx_drew | refine belx_set ?_ zP.out | refine belx_set ?_ zQ.out | apply belx_setg) | exact HB.out)) HL.out hb)
                 have n5_ := Aside0.mk (KeepBut.trans (by repeat (first | (with_reducible first | exact HK.out | apply KeepBut.set_ | apply zx | apply zy | apply zw | refine zu ?_ GW250.out _ | refine zu ?_ GW260.out _) | exact HK.out)) (KeepBut.of_grown hg g) (Kd.S_base2 zH.out))
                 have n6_ := Aside0.mk (ho)
                 clear zI
                 clear zJ
                 clear zG
                 clear HI0
                 clear HB
                 clear HK
                 clear zH
                 clear zxb
                 have zI := n0_
                 have zJ := n1_
                 have zG := n2_
                 have HI0 := n3_
                 have HB := n4_
                 have HK := n5_
                 have zDb := n6_
                 clear n0_ n1_ n2_ n3_ n4_ n5_ n6_
                 clear ho hb hg hat
                 obtain ⟨Ao86, co86, eo86⟩ := Kd.S_slice zDb.out
                 (first | subst eo86 | (injection eo86 with f1_ f2_ f3_; have f4_ := f1_.symm; have f5_ := f3_.symm; clear f1_ f2_ f3_; subst f4_; subst f5_))
                 refine hK.out _ _ ⟨(zb zG.out 0).trans rfl, (zb zG.out 1).trans rfl⟩ (fun hHeld => ?_)
                 clear hK K
                 refine norm_ (a' := ?_) ?_ ?_
                 rotate_left
                 ·show Act.put _ (some 68) _ = _
                  simp only [Act.put, List.setIfInBounds_toArray, List.set_cons_zero, List.set_cons_succ, zp, zq]
                  rfl
                 refine zA (i := 6) (N := some 69) (v := ?_) (a' := ?_) #[true, true, true, true, true, true, true, false] rfl rfl (zB HT_.out (by kernel_rfl)) (fun _ _ _ h => h) (Or.inl ⟨by rfl, ?_⟩) ?_ ?_
                 rotate_left
                 ·intro w'
                  go_simp
                  with_reducible rfl
                 rotate_left
                 ·simp only [Act.put, List.setIfInBounds_toArray, List.set_cons_zero, List.set_cons_succ, zp, zq]
                  rfl
                 refine last_ (i := 7) (N := none) #[true, true, true, true, true, true, true, true] rfl rfl (one_of HT_.out (by kernel_rfl)) (by decide) (fun K hK => ?_)
                 have hs87 : w85.cell? ⟨zK, 1, none⟩ = some (.slice Ao80 x261001_6.length co80) := (zb zG.out 1).trans rfl
                 have hfs87 := zd zG.out 1
                 have hns87_0 := zO.out
                 have hms87_0 := zR.out
                 refine skip_ (w1 := ?_) (by rfl) rfl ?_ ?_
                 rotate_left
                 ·go_simp
                  rfl
                 refine hK.out _ _ ?_
                 clear hK K
                 refine done_ (done_of HT_.out (by kernel_rfl)) ?_
                 try go_wp2
                 go_roundg k6
                 case measure => have := HJ3.out; have := HJ21.out; have := HJ29.out; have := HJ42.out; have := HJ59.out; have := HK6.out; omega
                 case rel => exact ⟨(y305), (.slice Ao86 y305.length co86), H', ⟨by have := HJ3.out; have := HJ21.out; have := HJ29.out; have := HJ42.out; have := HJ59.out; have := HK6.out; omega⟩, ⟨RL (Kd.R_mono (Kd.R_far (p := ⟨zK, 1, none⟩) (Kd.R_types zI.out zG.out (by decide)) (fun _ hk => hk.2) (.slice Ao86 y305.length co86)) (fun _ hk => trivial))⟩, ⟨SL (Kd.S_mono (Kd.S_far (p := ⟨zK, 1, none⟩) (Kd.S_types zDb.out zG.out (by decide)) (fun _ hk => hk.2) (.slice Ao86 y305.length co86)) (fun _ hk => hk.1))⟩, ⟨by (with_reducible repeat (first | refine zj ?_ _ | refine zg ?_ | refine zh ?_ _)); refine zE ?_ zO.out _; (with_reducible repeat (first | refine zj ?_ _ | refine zg ?_ | refine zh ?_ _)); exact zJ.out⟩, ⟨by (with_reducible repeat (first | refine zj ?_ _ | refine zg ?_ | refine zh ?_ _)); refine zz (cs := #[u261000, .slice Ao80 x261001_6.length co80]) ?_ 1 _ rfl; (with_reducible repeat (first | refine zj ?_ _ | refine zg ?_ | refine zh ?_ _)); exact zG.out⟩, ⟨by repeat (first | (with_reducible first | exact HI0.out | apply IsS93.alloc | apply IsS93.drewN | apply IsS93.drew | apply IsS93.set_1 | apply IsS93.set_2 | apply IsS93.set_3 | refine IsS93.far ?_ zN.out _ | refine IsS93.far ?_ zL.out _) | exact HI0.out)⟩, ⟨by repeat (first | (with_reducible first | exact HK.out | apply KeepBut.set_ | apply zx | apply zy | apply zw | refine zu ?_ GW250.out _ | refine zu ?_ GW260.out _) | exact HK.out)⟩, ⟨by repeat (first | (with_reducible first | exact HB.out | apply belx_alloc | apply belx_drewN | apply belx_drew | refine belx_set ?_ zP.out | refine belx_set ?_ zQ.out | apply belx_setg) | exact HB.out)⟩⟩
                ·rw [if_neg c76] at H
                 exact absurd H (by simp)
               ·rw [if_neg c75] at H
                exact absurd H (by simp)
              ·rw [if_neg c74] at H
               have c74b0 : decide ((x261001_6.length : Int) < (wrap64 (1999 + t298))) = false := decide_eq_false c74
               clear c74
               simp only [Option.some.injEq, Prod.mk.injEq] at H
               obtain ⟨rfl, rfl, rfl, rfl, rfl⟩ := H
               have zsc := zR.out
               have ztc := zO.out
               have zuc := zS.out
               have zvc := zL.out
               have zOb : wr.cell? ⟨zK, 0, none⟩ = some (u261000) := (zb zG.out 0).trans rfl
               have zPb : wr.cell? ⟨zK, 1, none⟩ = some (u261001) := (zb zG.out 1).trans rfl
               have zQb := zd zG.out 0
               have zRb := zd zG.out 1
               obtain ⟨Ao91, co91, eo91⟩ := Kd.S_slice zH.out
               subst eo91
               obtain ⟨Ao92, co92, eo92⟩ := Kd.R_slice zI.out
               subst eo92
               have zwc := zV.out
               have zxc := zN.out
               have zSb : wr.cell? ⟨zM, 0, none⟩ = some (.slice none 0 0) := (zb zJ.out 0).trans rfl
               have zTb : wr.cell? ⟨zM, 1, none⟩ = some (.slice none 0 0) := (zb zJ.out 1).trans rfl
               have zUb := zd zJ.out 0
               have zVb := zd zJ.out 1
               go_wp2
               refine bodyPost_ret (results_cell_row rfl _ _ zM 35 #[.slice Ao92 x261000_29.length co92, .slice Ao91 x261001_6.length co91] (0, 0) _ rfl (by (with_reducible repeat (first | refine zj ?_ _ | refine zg ?_ | refine zh ?_ _)); refine zz (cs := #[.slice Ao92 x261000_29.length co92, .slice none 0 0]) ?_ 1 _ rfl; (with_reducible repeat (first | refine zj ?_ _ | refine zg ?_ | refine zh ?_ _)); refine zz (cs := #[.slice none 0 0, .slice none 0 0]) ?_ 0 _ rfl; (with_reducible repeat (first | refine zj ?_ _ | refine zg ?_ | refine zh ?_ _)); exact zJ.out) Try.underlying35 rfl (by kernel_rfl)) rfl ?_
               exact ⟨_, _, by first | rfl | (simp [errW_none, errW_some] <;> rfl) | (simp [*, errW_none, errW_some] <;> rfl), RL (Kd.R_mono (Kd.R_far (p := ⟨zM, 1, none⟩) (Kd.R_far (p := ⟨zM, 0, none⟩) (Kd.R_types zI.out zJ.out (by decide)) (fun _ hk => hk.2) (.slice Ao92 x261000_29.length co92)) (fun _ hk => hk.2) (.slice Ao91 x261001_6.length co91)) (fun _ hk => trivial)), SL (Kd.S_mono (Kd.S_far (p := ⟨zM, 1, none⟩) (Kd.S_far (p := ⟨zM, 0, none⟩) (Kd.S_types zH.out zJ.out (by decide)) (fun _ hk => hk.2) (.slice Ao92 x261000_29.length co92)) (fun _ hk => hk.2) (.slice Ao91 x261001_6.length co91)) (fun _ hk => hk.1)), by repeat (first | (with_reducible first | exact HI0.out | apply IsS93.alloc | apply IsS93.drewN | apply IsS93.drew | apply IsS93.set_1 | apply IsS93.set_2 | apply IsS93.set_3 | refine IsS93.far ?_ zN.out _ | refine IsS93.far ?_ zL.out _) | exact HI0.out), by repeat (first | (with_reducible first | exact HB.out | apply belx_alloc | apply belx_drewN | apply belx_drew | refine belx_set ?_ zP.out | refine belx_set ?_ zQ.out | apply belx_setg) | exact HB.out), by repeat (first | (with_reducible first | exact HK.out | apply KeepBut.set_ | apply zx | apply zy | apply zw | refine zu ?_ GW250.out _ | refine zu ?_ GW260.out _) | exact HK.out)⟩
           ·rw [if_neg c71] at H
            have c71b0 : (t261 == 5) = false := beq_eq_false_iff_ne.mpr c71
            have c71b1 : (t261 != 5) = true := bne_iff_ne.mpr c71
            simp only [Option.some.injEq, Prod.mk.injEq] at H
            obtain ⟨rfl, rfl, rfl, rfl, rfl⟩ := H
            have zyc := zR.out
            have zzc := zO.out
            have zAc := zS.out
            have zBc := zL.out
            have zWb : wc.cell? ⟨zK, 0, none⟩ = some (u261000) := (zb zG.out 0).trans rfl
            have zXb : wc.cell? ⟨zK, 1, none⟩ = some (u261001) := (zb zG.out 1).trans rfl
            have zYb := zd zG.out 0
            have zZb := zd zG.out 1
            obtain ⟨Ao98, co98, eo98⟩ := Kd.R_slice zI.out
            subst eo98
            have zCc := zV.out
            have zDc := zN.out
            have zGb : wc.cell? ⟨zM, 0, none⟩ = some (.slice none 0 0) := (zb zJ.out 0).trans rfl
            have zHb : wc.cell? ⟨zM, 1, none⟩ = some (.slice none 0 0) := (zb zJ.out 1).trans rfl
            have zIb := zd zJ.out 0
            have zJb := zd zJ.out 1
            obtain ⟨Ao101, co101, eo101⟩ := Kd.S_slice zH.out
            subst eo101
            go_wp2
            refine bodyPost_ret (results_cell_row rfl _ _ zM 35 #[.slice Ao98 x261000_29.length co98, .slice Ao101 x261001_59.length co101] (0, 0) _ rfl (by (with_reducible repeat (first | refine zj ?_ _ | refine zg ?_ | refine zh ?_ _)); refine zz (cs := #[.slice Ao98 x261000_29.length co98, .slice none 0 0]) ?_ 1 _ rfl; (with_reducible repeat (first | refine zj ?_ _ | refine zg ?_ | refine zh ?_ _)); refine zz (cs := #[.slice none 0 0, .slice none 0 0]) ?_ 0 _ rfl; (with_reducible repeat (first | refine zj ?_ _ | refine zg ?_ | refine zh ?_ _)); exact zJ.out) Try.underlying35 rfl (by kernel_rfl)) rfl ?_
            exact ⟨_, _, by first | rfl | (simp [errW_none, errW_some] <;> rfl) | (simp [*, errW_none, errW_some] <;> rfl), RL (Kd.R_mono (Kd.R_far (p := ⟨zM, 1, none⟩) (Kd.R_far (p := ⟨zM, 0, none⟩) (Kd.R_types zI.out zJ.out (by decide)) (fun _ hk => hk.2) (.slice Ao98 x261000_29.length co98)) (fun _ hk => hk.2) (.slice Ao101 x261001_59.length co101)) (fun _ hk => trivial)), SL (Kd.S_mono (Kd.S_far (p := ⟨zM, 1, none⟩) (Kd.S_far (p := ⟨zM, 0, none⟩) (Kd.S_types zH.out zJ.out (by decide)) (fun _ hk => hk.2) (.slice Ao98 x261000_29.length co98)) (fun _ hk => hk.2) (.slice Ao101 x261001_59.length co101)) (fun _ hk => hk.1)), by repeat (first | (with_reducible first | exact HI0.out | apply IsS93.alloc | apply IsS93.drewN | apply IsS93.drew | apply IsS93.set_1 | apply IsS93.set_2 | apply IsS93.set_3 | refine IsS93.far ?_ zN.out _ | refine IsS93.far ?_ zL.out _) | exact HI0.out), by repeat (first | (with_reducible first | exact HB.out | apply belx_alloc | apply belx_drewN | apply belx_drew | refine belx_set ?_ zP.out | refine belx_set ?_ zQ.out | apply belx_setg) | exact HB.out), by repeat (first | (with_reducible first | exact HK.out | apply KeepBut.set_ | apply zx | apply zy | apply zw | refine zu ?_ GW250.out _ | refine zu ?_ GW260.out _) | exact HK.out)⟩
theorem spec_l1DrawDisk.callsX {B_ : Nat} (k : Nat) (g : Nat) (s0_0 : List Int) (s0_1 : Int) (s0_2 : Int) (s0_3 : Int) (r1 : List Int) (r2 : List (S45)) (r3 : Int) (r4 : Int) (r5 : Int) (w0 w : World) (hI : IsX93 B_ w0 w g s0_0 s0_1 s0_2 s0_3) (hB : Below w0.heap.size w0 w) (h : spec_l1DrawDisk.f k s0_0 s0_1 s0_2 s0_3 = some (r1, r2, r3, r4, r5)) :
  Calls Try.prog 35 #[.pointer (some ⟨g, 0, none⟩)] w fun e w' => ∃ v0_ v1_ : Value, e = .returned (.agg #[v0_, v1_]) ∧ Kd.R (Kd.int .u8) 5 w' w.heap.size (fun _ => True) v0_ r1 ∧ Kd.S k45 45 w' w.heap.size (fun k_ => some k_ ≠ (v0_ : Value).ownBlock) v1_ r2 ∧ IsX93 B_ w0 w' g s0_0 r3 r4 r5 ∧ Below w0.heap.size w0 w' ∧ KeepBut w w' g none := by
 obtain ⟨wc_, hS_, hX_, hg_, hs_, hs2_, hs3_⟩ := hI
 refine (spec_l1DrawDisk.calls k g s0_0 s0_1 s0_2 s0_3 r1 r2 r3 r4 r5 wc_ w hS_ hX_ h).mono ?_
 rintro e w' ⟨v0_, v1_, q0_, q1_, q2_, q3_, q4_, q5_⟩
 exact ⟨v0_, v1_, q0_, q1_, q2_, ⟨wc_, q3_, q4_, hg_, hs_, hs2_, Nat.le_trans hs3_ (q5_.1)⟩, belx_out hB hX_ q4_ q5_ hg_, q5_⟩

end Go.Proofs.Ytejecjjimggjeaa.GFnSync
