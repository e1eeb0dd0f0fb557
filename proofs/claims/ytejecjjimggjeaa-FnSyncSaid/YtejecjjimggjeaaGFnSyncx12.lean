/- Written by give.py, a program of this session, that runs the kit's print and lays contracts proved by hand beside it. -/
import Derived.Test.YtejecjjimggjeaaGFnSyncx0
import Derived.Test.YtejecjjimggjeaaGFnSyncx2
namespace Go.Proofs.Ytejecjjimggjeaa.GFnSync
open Go.RowKit Go.Proofs.YtejecjjimggjeaaW.PrintWords Go.Proofs.YtejecjjimggjeaaW.PrintLast Go.Proofs.YtejecjjimggjeaaW.PrintMore
attribute [local go_sem] max2_int min2_int max_two min_two max_three min_three max_four min_four
attribute [local go_sem high] Go.Proofs.YtejecjjimggjeaaH.str_leq Go.Proofs.YtejecjjimggjeaaH.str_geq Go.Proofs.YtejecjjimggjeaaH.str_gtr   -- for this text's walks alone
set_option linter.unusedVariables false
set_option linter.unusedSimpArgs false

mutual
def spec_DiskRead.j0 : Nat → Int → Bool → List Int → List (S45) → Option (List Int)
 | 0, _, _, _, _ => none
 | k + 1, x1, x19, x363000, x363001 => if x19 = true then (some (([] : List Int))) else (if 0 ≤ (wrap64 (x1 * 64)) then (if (wrap64 (x1 * 64)) ≤ (wrap64 ((wrap64 (x1 + 1)) * 64)) then (if (wrap64 ((wrap64 (x1 + 1)) * 64)) ≤ (x363000.length : Int) then ((spec_l1Copy.f k ((x363000.take ((wrap64 ((wrap64 (x1 + 1)) * 64)) : Int).toNat).drop ((wrap64 (x1 * 64)) : Int).toNat)).bind fun t369 => (spec_DiskRead.l0 k x1 t369 0 x363000 x363001)) else (none)) else (none)) else (none))
def spec_DiskRead.l0 : Nat → Int → List Int → Int → List Int → List (S45) → Option (List Int)
 | 0, _, _, _, _, _ => none
 | k + 1, x1, x5, x6, x363000, x363001 => if x6 < (x363001.length : Int) then (if 0 ≤ x6 then (if ((rd_T45 x363001 x6).f0) = x1 then ((spec_l1Copy.f k ((rd_T45 x363001 x6).f1)).bind fun t374 => (spec_DiskRead.l0 k x1 t374 (wrap64 (x6 + 1)) x363000 x363001)) else (spec_DiskRead.l0 k x1 x5 (wrap64 (x6 + 1)) x363000 x363001)) else (none)) else (some x5)
end
def spec_DiskRead.f (k : Nat) (l0_0 : List Int) (l0_1 : List (S45)) (a1 : Int) : Option (List Int) := (spec_ValidDisk.f k l0_0 l0_1).bind fun t363 => (if t363 = true then (if a1 < 0 then (spec_DiskRead.j0 k a1 true l0_0 l0_1) else ((spec_l1Blocks.f l0_0 l0_1).bind fun t364 => (spec_DiskRead.j0 k a1 (decide (a1 ≥ t364)) l0_0 l0_1))) else (spec_DiskRead.j0 k a1 true l0_0 l0_1))
theorem spec_DiskRead.mono_l : ∀ k, (∀ y0 y1 y2 y3, LeO (spec_DiskRead.j0 k y0 y1 y2 y3) (spec_DiskRead.j0 (k + 1) y0 y1 y2 y3)) ∧ (∀ y0 y1 y2 y3 y4, LeO (spec_DiskRead.l0 k y0 y1 y2 y3 y4) (spec_DiskRead.l0 (k + 1) y0 y1 y2 y3 y4))
 | 0 => ⟨fun _ _ _ _ r h => by simp [spec_DiskRead.j0] at h, fun _ _ _ _ _ r h => by simp [spec_DiskRead.l0] at h⟩
 | k + 1 => by
  obtain ⟨ih0, ih1⟩ := spec_DiskRead.mono_l k
  refine ⟨?_, ?_⟩
  ·intro y0 y1 y2 y3
   unfold spec_DiskRead.j0
   repeat' first
   | (with_reducible exact ih0 _ _ _ _)
   | (with_reducible exact ih1 _ _ _ _ _)
   | (with_reducible exact spec_ValidDisk.mono _ _ _)
   | (with_reducible exact spec_l1Copy.mono _ _)
   | (with_reducible exact LeO.refl _)
   | (with_reducible exact LeO.none _)
   | (with_reducible refine LeO.ite ?_ ?_)
   | (with_reducible refine LeO.bind ?_ (fun _ => ?_))
   | exact ih0 _ _ _ _
   | exact ih1 _ _ _ _ _
   | exact spec_ValidDisk.mono _ _ _
   | exact spec_l1Copy.mono _ _
   | exact LeO.none _
   | refine LeO.ite ?_ ?_
   | refine LeO.bind ?_ (fun _ => ?_)
  ·intro y0 y1 y2 y3 y4
   unfold spec_DiskRead.l0
   repeat' first
   | (with_reducible exact ih0 _ _ _ _)
   | (with_reducible exact ih1 _ _ _ _ _)
   | (with_reducible exact spec_ValidDisk.mono _ _ _)
   | (with_reducible exact spec_l1Copy.mono _ _)
   | (with_reducible exact LeO.refl _)
   | (with_reducible exact LeO.none _)
   | (with_reducible refine LeO.ite ?_ ?_)
   | (with_reducible refine LeO.bind ?_ (fun _ => ?_))
   | exact ih0 _ _ _ _
   | exact ih1 _ _ _ _ _
   | exact spec_ValidDisk.mono _ _ _
   | exact spec_l1Copy.mono _ _
   | exact LeO.none _
   | refine LeO.ite ?_ ?_
   | refine LeO.bind ?_ (fun _ => ?_)
theorem spec_DiskRead.mono : ∀ a0 a1 a2 k, LeO (spec_DiskRead.f k a0 a1 a2) (spec_DiskRead.f (k + 1) a0 a1 a2) := by
 intro a0 a1 a2 k
 obtain ⟨ih0, ih1⟩ := spec_DiskRead.mono_l k
 unfold spec_DiskRead.f
 repeat' first
   | (with_reducible exact ih0 _ _ _ _)
   | (with_reducible exact ih1 _ _ _ _ _)
   | (with_reducible exact spec_ValidDisk.mono _ _ _)
   | (with_reducible exact spec_l1Copy.mono _ _)
   | (with_reducible exact LeO.refl _)
   | (with_reducible exact LeO.none _)
   | (with_reducible refine LeO.ite ?_ ?_)
   | (with_reducible refine LeO.bind ?_ (fun _ => ?_))
   | exact ih0 _ _ _ _
   | exact ih1 _ _ _ _ _
   | exact spec_ValidDisk.mono _ _ _
   | exact spec_l1Copy.mono _ _
   | exact LeO.none _
   | refine LeO.ite ?_ ?_
   | refine LeO.bind ?_ (fun _ => ?_)
set_option maxHeartbeats 8000000 in
set_option maxRecDepth 100000 in
theorem spec_DiskRead.calls (k : Nat) (A0_0 : Option Addr) (c0_0 : Nat) (l0_0 : List Int) (A0_1 : Option Addr) (c0_1 : Nat) (l0_1 : List (S45)) (a1 : Int) (r : List Int) (w : World) (hr0_0 : Kd.C (Kd.int .u8) w A0_0 l0_0.length l0_0) (hc0_0 : l0_0.length ≤ c0_0) (hr0_1 : Kd.C k45 w A0_1 l0_1.length l0_1) (hc0_1 : l0_1.length ≤ c0_1) (h : spec_DiskRead.f k l0_0 l0_1 a1 = some r) :
  Calls Try.prog 22 #[.agg #[.slice A0_0 l0_0.length c0_0, .slice A0_1 l0_1.length c0_1], .int .i64 a1] w fun e w' => ∃ v0_ : Value, e = .returned (v0_) ∧ Kd.R (Kd.int .u8) 5 w' w.heap.size (fun _ => True) v0_ r ∧ Below w.heap.size w w' := by
 have hu35 := Try.underlying35
 have HR0_0 := Aside0.mk hr0_0
 have HC0_0 := Aside0.mk hc0_0
 clear hr0_0 hc0_0
 have HR0_1 := Aside0.mk hr0_1
 have HC0_1 := Aside0.mk hc0_1
 clear hr0_1 hc0_1
 have HB := Aside0.mk (Below.refl w.heap.size w)
 have H : ((spec_ValidDisk.f k l0_0 l0_1).bind fun t363 => (if t363 = true then (if a1 < 0 then (spec_DiskRead.j0 k a1 true l0_0 l0_1) else ((spec_l1Blocks.f l0_0 l0_1).bind fun t364 => (spec_DiskRead.j0 k a1 (decide (a1 ≥ t364)) l0_0 l0_1))) else (spec_DiskRead.j0 k a1 true l0_0 l0_1))) = some r := h
 clear h
 have HC3 := Aside0.mk H
 clear H
 go_enter Try.func22, Try.ntmps22
 go_upto_region 1 with (first | ((with_reducible refine zt (N := 2) rfl ?_); refine zF ?hg (N := 2) ?hd (cs := #[.slice A0_0 l0_0.length c0_0, .slice A0_1 l0_1.length c0_1]) (t := 35) ?hr ?_; (case hd => rfl); (case hg => rfl); (case hr => first | (go_simp; done) | (go_simp; rfl)); intro zH hg w4 hbox hb; have n0_ := Aside0.mk (zk (by exact bl HB.out) hb); have n1_ := Aside0.mk (hbox); have n2_ := Aside0.mk ((by rw [hg]; exact (zm (by exact bl HB.out)) : w.heap.size ≤ zH)); have n3_ := Aside0.mk ((by rw [hg]; exact (zm (by exact bl HB.out)) : w.heap.size ≤ zH)); clear HB; have HB := n0_; have zG := n1_; have GW362 := n2_; have zI := n3_; clear n0_ n1_ n2_ n3_; clear hb hbox hg))
 (try simp only [Act.put, List.setIfInBounds_toArray, List.set_cons_zero, List.set_cons_succ])
 go_cut [19] (fun v19 wc => ∃ (kq : Nat) (x19_2 : Bool), v19 = .bool x19_2 ∧ Aside0 (spec_DiskRead.j0 kq a1 x19_2 l0_0 l0_1 = some r) ∧ Aside0 (kq ≤ k) ∧ Aside0 (wc.heap[zH]? = some (.cells #[(.slice A0_0 l0_0.length c0_0), (.slice A0_1 l0_1.length c0_1)] 35 (0, 0))) ∧ Aside0 (Below w.heap.size w wc))
 case first =>
  have H := HC3.out
  clear HC3
  replace H := Option.bind_eq_some_iff.mp H
  obtain ⟨t363, A50, H⟩ := H
  replace H : (if t363 = true then (if a1 < 0 then (spec_DiskRead.j0 k a1 true l0_0 l0_1) else ((spec_l1Blocks.f l0_0 l0_1).bind fun t364 => (spec_DiskRead.j0 k a1 (decide (a1 ≥ t364)) l0_0 l0_1))) else (spec_DiskRead.j0 k a1 true l0_0 l0_1)) = some r := H
  have A5 := Aside0.mk A50
  clear A50
  by_cases c6 : t363 = true
  ·subst c6
   have H1 : (if a1 < 0 then (spec_DiskRead.j0 k a1 true l0_0 l0_1) else ((spec_l1Blocks.f l0_0 l0_1).bind fun t364 => (spec_DiskRead.j0 k a1 (decide (a1 ≥ t364)) l0_0 l0_1))) = some r := by rw [if_pos rfl] at H; exact H
   clear H
   have H := H1
   clear H1
   by_cases c7 : a1 < 0
   ·rw [if_pos c7] at H
    have c7b0 : decide (a1 < 0) = true := decide_eq_true c7
    clear c7
    (first | rw [c7b0] | (simp only [zp, zq]; rw [c7b0]) | skip)
    have H' := Aside0.mk H
    clear H
    have zY : w4.cell? ⟨zH, 0, none⟩ = some (.slice A0_0 l0_0.length c0_0) := (zb zG.out 0).trans rfl
    have zZ : w4.cell? ⟨zH, 1, none⟩ = some (.slice A0_1 l0_1.length c0_1) := (zb zG.out 1).trans rfl
    have zab := zd zG.out 0
    have zbb := zd zG.out 1
    go_wp2_with (first | ((with_reducible refine zo (f := 44) rfl ?_); refine zC (some 8) rfl rfl Try.func44 (by kernel_rfl) rfl #[.agg #[.slice A0_0 l0_0.length c0_0, .slice A0_1 l0_1.length c0_1]] rfl (by (try simp only [List.map_toArray, List.map_cons, List.map_nil]); first | done | rfl) ?_; (with_reducible refine (spec_ValidDisk.calls k _ _ l0_0 _ _ l0_1 true _ ?side1 ?side2 ?side3 ?side4 A5.out).mono ?_); (case side1 => repeat (first | exact (Kd.C_below HR0_0.out HB.out) | (with_reducible refine Kd.C_alloc ?_ _) | (with_reducible refine Kd.C_drewN ?_ _) | (with_reducible refine Kd.C_drew ?_))); (case side2 => exact HC0_0.out); (case side3 => repeat (first | exact (Kd.C_below HR0_1.out HB.out) | (with_reducible refine Kd.C_alloc ?_ _) | (with_reducible refine Kd.C_drewN ?_ _) | (with_reducible refine Kd.C_drew ?_))); (case side4 => exact HC0_1.out); rintro e w9 ⟨rfl, hb⟩; refine ⟨_, rfl, ?_⟩; have n0_ := Aside0.mk (zl (g := zH) (o := .cells #[.slice A0_0 l0_0.length c0_0, .slice A0_1 l0_1.length c0_1] 35 (0, 0)) (BL zG.out) hb); have n1_ := Aside0.mk (zk (by exact bl HB.out) hb); clear zG; clear HB; have zG := n0_; have HB := n1_; clear n0_ n1_; (try clear hb); (try clear hb2); (try clear hk); (try clear hi)))
    go_meet
    case rel => exact ⟨_, (true), (by first | rfl | (simp; done) | (simp [*]; done)), H', ⟨by first | omega | exact Nat.le_refl _⟩, ⟨BL zG.out⟩, ⟨by repeat (first | (with_reducible first | exact HB.out | apply zf | apply ze | apply zi | refine zc ?_ zI.out) | exact HB.out)⟩⟩
   ·rw [if_neg c7] at H
    have c7b0 : decide (a1 < 0) = false := decide_eq_false c7
    clear c7
    (first | rw [c7b0] | (simp only [zp, zq]; rw [c7b0]) | skip)
    replace H := Option.bind_eq_some_iff.mp H
    obtain ⟨t364, A100, H⟩ := H
    replace H : (spec_DiskRead.j0 k a1 (decide (a1 ≥ t364)) l0_0 l0_1) = some r := H
    have A10 := Aside0.mk A100
    clear A100
    have H' := Aside0.mk H
    clear H
    have zL : w4.cell? ⟨zH, 0, none⟩ = some (.slice A0_0 l0_0.length c0_0) := (zb zG.out 0).trans rfl
    have zM : w4.cell? ⟨zH, 1, none⟩ = some (.slice A0_1 l0_1.length c0_1) := (zb zG.out 1).trans rfl
    have zN := zd zG.out 0
    have zO := zd zG.out 1
    go_wp2_with (first | ((with_reducible refine zo (f := 44) rfl ?_); refine zC (some 8) rfl rfl Try.func44 (by kernel_rfl) rfl #[.agg #[.slice A0_0 l0_0.length c0_0, .slice A0_1 l0_1.length c0_1]] rfl (by (try simp only [List.map_toArray, List.map_cons, List.map_nil]); first | done | rfl) ?_; (with_reducible refine (spec_ValidDisk.calls k _ _ l0_0 _ _ l0_1 true _ ?side1 ?side2 ?side3 ?side4 A5.out).mono ?_); (case side1 => repeat (first | exact (Kd.C_below HR0_0.out HB.out) | (with_reducible refine Kd.C_alloc ?_ _) | (with_reducible refine Kd.C_drewN ?_ _) | (with_reducible refine Kd.C_drew ?_))); (case side2 => exact HC0_0.out); (case side3 => repeat (first | exact (Kd.C_below HR0_1.out HB.out) | (with_reducible refine Kd.C_alloc ?_ _) | (with_reducible refine Kd.C_drewN ?_ _) | (with_reducible refine Kd.C_drew ?_))); (case side4 => exact HC0_1.out); rintro e w12 ⟨rfl, hb⟩; refine ⟨_, rfl, ?_⟩; have n0_ := Aside0.mk (zl (g := zH) (o := .cells #[.slice A0_0 l0_0.length c0_0, .slice A0_1 l0_1.length c0_1] 35 (0, 0)) (BL zG.out) hb); have n1_ := Aside0.mk (zk (by exact bl HB.out) hb); clear zG; clear HB; have zG := n0_; have HB := n1_; clear n0_ n1_; (try clear hb); (try clear hb2); (try clear hk); (try clear hi); have zP : w12.cell? ⟨zH, 0, none⟩ = some (.slice A0_0 l0_0.length c0_0) := (zb zG.out 0).trans rfl; have zQ : w12.cell? ⟨zH, 1, none⟩ = some (.slice A0_1 l0_1.length c0_1) := (zb zG.out 1).trans rfl; have zR := zd zG.out 0; have zS := zd zG.out 1) | (go_at_call 37; (with_reducible refine (spec_l1Blocks.calls _ _ l0_0 _ _ l0_1 t364 _ ?side1 ?side2 ?side3 ?side4 A10.out).mono ?_); (case side1 => repeat (first | exact (Kd.C_below HR0_0.out HB.out) | (with_reducible refine Kd.C_alloc ?_ _) | (with_reducible refine Kd.C_drewN ?_ _) | (with_reducible refine Kd.C_drew ?_))); (case side2 => exact HC0_0.out); (case side3 => repeat (first | exact (Kd.C_below HR0_1.out HB.out) | (with_reducible refine Kd.C_alloc ?_ _) | (with_reducible refine Kd.C_drewN ?_ _) | (with_reducible refine Kd.C_drew ?_))); (case side4 => exact HC0_1.out); rintro e w14 ⟨rfl, hb⟩; have n0_ := Aside0.mk (zl (g := zH) (o := .cells #[.slice A0_0 l0_0.length c0_0, .slice A0_1 l0_1.length c0_1] 35 (0, 0)) (BL zG.out) hb); have n1_ := Aside0.mk (zk (by exact bl HB.out) hb); clear zG; clear HB; have zG := n0_; have HB := n1_; clear n0_ n1_; (try clear hb); (try clear hb2); (try clear hk); (try clear hi)))
    go_meet
    case rel => exact ⟨_, (decide (a1 ≥ t364)), (by first | rfl | (simp; done) | (simp [*]; done)), H', ⟨by first | omega | exact Nat.le_refl _⟩, ⟨BL zG.out⟩, ⟨by repeat (first | (with_reducible first | exact HB.out | apply zf | apply ze | apply zi | refine zc ?_ zI.out) | exact HB.out)⟩⟩
  ·replace c6 := Bool.eq_false_iff.mpr c6
   subst c6
   have H1 : (spec_DiskRead.j0 k a1 true l0_0 l0_1) = some r := by rw [if_neg (show ¬ (false = true) by decide)] at H; exact H
   clear H
   have H := H1
   clear H1
   have H' := Aside0.mk H
   clear H
   have zT : w4.cell? ⟨zH, 0, none⟩ = some (.slice A0_0 l0_0.length c0_0) := (zb zG.out 0).trans rfl
   have zU : w4.cell? ⟨zH, 1, none⟩ = some (.slice A0_1 l0_1.length c0_1) := (zb zG.out 1).trans rfl
   have zV := zd zG.out 0
   have zW := zd zG.out 1
   go_wp2_with (first | ((with_reducible refine zo (f := 44) rfl ?_); refine zC (some 8) rfl rfl Try.func44 (by kernel_rfl) rfl #[.agg #[.slice A0_0 l0_0.length c0_0, .slice A0_1 l0_1.length c0_1]] rfl (by (try simp only [List.map_toArray, List.map_cons, List.map_nil]); first | done | rfl) ?_; (with_reducible refine (spec_ValidDisk.calls k _ _ l0_0 _ _ l0_1 false _ ?side1 ?side2 ?side3 ?side4 A5.out).mono ?_); (case side1 => repeat (first | exact (Kd.C_below HR0_0.out HB.out) | (with_reducible refine Kd.C_alloc ?_ _) | (with_reducible refine Kd.C_drewN ?_ _) | (with_reducible refine Kd.C_drew ?_))); (case side2 => exact HC0_0.out); (case side3 => repeat (first | exact (Kd.C_below HR0_1.out HB.out) | (with_reducible refine Kd.C_alloc ?_ _) | (with_reducible refine Kd.C_drewN ?_ _) | (with_reducible refine Kd.C_drew ?_))); (case side4 => exact HC0_1.out); rintro e w16 ⟨rfl, hb⟩; refine ⟨_, rfl, ?_⟩; have n0_ := Aside0.mk (zl (g := zH) (o := .cells #[.slice A0_0 l0_0.length c0_0, .slice A0_1 l0_1.length c0_1] 35 (0, 0)) (BL zG.out) hb); have n1_ := Aside0.mk (zk (by exact bl HB.out) hb); clear zG; clear HB; have zG := n0_; have HB := n1_; clear n0_ n1_; (try clear hb); (try clear hb2); (try clear hk); (try clear hi)))
   go_meet
   case rel => exact ⟨_, (true), (by first | rfl | (simp; done) | (simp [*]; done)), H', ⟨by first | omega | exact Nat.le_refl _⟩, ⟨BL zG.out⟩, ⟨by repeat (first | (with_reducible first | exact HB.out | apply zf | apply ze | apply zi | refine zc ?_ zI.out) | exact HB.out)⟩⟩
 case rest =>
  clear HC3
  try clear c2
  try clear p2
  try clear c4
  try clear c6
  try clear c7
  try clear c7b0
  try clear zL
  try clear zM
  try clear zP
  try clear zQ
  try clear zT
  try clear zU
  try clear zY
  try clear zZ
  try clear zN
  try clear zO
  try clear zR
  try clear zS
  try clear zV
  try clear zW
  try clear zab
  try clear zbb
  obtain ⟨kq, x19_2, rfl, HA, HJ2, zG, HB⟩ := hcut
  cases kq with
  | zero => exact absurd HA.out (by simp [spec_DiskRead.j0])
  | succ kj2 =>
   have H := HA.out
   clear HA
   simp only [spec_DiskRead.j0] at H
   by_cases c17 : x19_2 = true
   ·subst c17
    have H1 : (some (([] : List Int))) = some r := by rw [if_pos rfl] at H; exact H
    clear H
    have H := H1
    clear H1
    obtain ⟨y365, hy365⟩ : ∃ y_ : List Int, y_ = (([] : List Int)) := ⟨_, rfl⟩
    replace H : (some y365) = some r := by first | (rw [hy365]; with_reducible exact H) | (have H2_ := (Option.bind_some _ _).symm.trans H; rw [hy365]; with_reducible exact H2_) | (have H2_ := (Option.bind_some _ _).symm.trans H; with_reducible exact H2_) | with_reducible exact H | (rw [hy365]; exact H) | exact H
    have Ny365 := Aside0.mk hy365
    clear hy365
    obtain rfl := Option.some.inj H
    go_wp2_with (first | ((with_reducible refine zt (N := 20) rfl ?_); refine Kd.R_lit (Kd.int .u8) _ 5 ?hg (N := 20) ?hd (xs := ([] : List Int)) (inner := []) (ok := fun _ => True) (okp := fun _ => True) ?hr ?hp (fun _ hk => hk) trivial (Below.refl _ _) (Nat.le_refl _) (by simp) ?_; (case hd => rfl); (case hg => rfl); (case hr => first | (go_simp; done) | (go_simp; rfl)); (case hp => exact (Reps.none _ _)); intro v366 w18 zK hb hg_ hnew_; clear hg_ hnew_; (first | rw [← Ny365.out] at zK | (simp only [Int.reduceToNat] at zK; rw [← Ny365.out] at zK)); have n0_ := Aside0.mk (Kd.R_lower zK (zm (by exact bl HB.out))); have n1_ := Aside0.mk (zl (g := zH) (o := .cells #[.slice A0_0 l0_0.length c0_0, .slice A0_1 l0_1.length c0_1] 35 (0, 0)) (BL zG.out) hb); have n2_ := Aside0.mk (zk (by exact bl HB.out) hb); clear zG; clear HB; have zgb := n0_; have zG := n1_; have HB := n2_; clear n0_ n1_ n2_; clear hb zK))
    go_ret
    exact ⟨_, by first | rfl | (simp [errW_none, errW_some] <;> rfl) | (simp [*, errW_none, errW_some] <;> rfl), RL zgb.out, by repeat (first | (with_reducible first | exact HB.out | apply zf | apply ze | apply zi | refine zc ?_ zI.out) | exact HB.out)⟩
   ·replace c17 := Bool.eq_false_iff.mpr c17
    subst c17
    have H1 : (if 0 ≤ (wrap64 (a1 * 64)) then (if (wrap64 (a1 * 64)) ≤ (wrap64 ((wrap64 (a1 + 1)) * 64)) then (if (wrap64 ((wrap64 (a1 + 1)) * 64)) ≤ (l0_0.length : Int) then ((spec_l1Copy.f kj2 ((l0_0.take ((wrap64 ((wrap64 (a1 + 1)) * 64)) : Int).toNat).drop ((wrap64 (a1 * 64)) : Int).toNat)).bind fun t369 => (spec_DiskRead.l0 kj2 a1 t369 0 l0_0 l0_1)) else (none)) else (none)) else (none)) = some r := by rw [if_neg (show ¬ (false = true) by decide)] at H; exact H
    clear H
    have H := H1
    clear H1
    obtain ⟨ji20, hji20⟩ : ∃ j_ : Int, (wrap64 (a1 * 64)) = j_ := ⟨_, rfl⟩
    replace H : (if 0 ≤ (ji20) then (if (ji20) ≤ (wrap64 ((wrap64 (a1 + 1)) * 64)) then (if (wrap64 ((wrap64 (a1 + 1)) * 64)) ≤ (l0_0.length : Int) then ((spec_l1Copy.f kj2 ((l0_0.take ((wrap64 ((wrap64 (a1 + 1)) * 64)) : Int).toNat).drop ((ji20) : Int).toNat)).bind fun t369 => (spec_DiskRead.l0 kj2 a1 t369 0 l0_0 l0_1)) else (none)) else (none)) else (none)) = some r := by first | (rw [hji20] at H; exact H) | (simp only [hji20] at H ⊢; exact H)
    have hji20w : (IntKind.i64.wrap (a1 * 64)) = ji20 := (zp _).trans hji20
    by_cases c21 : 0 ≤ (ji20)
    ·rw [if_pos c21] at H
     have c21b0 := eq_true c21
     have c21b1 : decide (0 ≤ (ji20)) = true := decide_eq_true c21
     clear c21
     by_cases c22 : (ji20) ≤ (wrap64 ((wrap64 (a1 + 1)) * 64))
     ·rw [if_pos c22] at H
      have c22b0 := eq_true c22
      have c22b1 : decide ((ji20) ≤ (wrap64 ((wrap64 (a1 + 1)) * 64))) = true := decide_eq_true c22
      by_cases c23 : (wrap64 ((wrap64 (a1 + 1)) * 64)) ≤ (l0_0.length : Int)
      ·rw [if_pos c23] at H
       have c23b0 := eq_true c23
       have c23b1 : decide ((wrap64 ((wrap64 (a1 + 1)) * 64)) ≤ (l0_0.length : Int)) = true := decide_eq_true c23
       replace H := Option.bind_eq_some_iff.mp H
       obtain ⟨t369, A240, H⟩ := H
       replace H : (spec_DiskRead.l0 kj2 a1 t369 0 l0_0 l0_1) = some r := H
       have A24 := Aside0.mk A240
       clear A240
       have H' := Aside0.mk H
       clear H
       have zcb : wc.cell? ⟨zH, 0, none⟩ = some (.slice A0_0 l0_0.length c0_0) := (zb zG.out 0).trans rfl
       have zdb : wc.cell? ⟨zH, 1, none⟩ = some (.slice A0_1 l0_1.length c0_1) := (zb zG.out 1).trans rfl
       have zeb := zd zG.out 0
       have zfb := zd zG.out 1
       obtain ⟨i026, hi026, _, hsz26, _⟩ := info_parts info5
       obtain ⟨A26, hcut26, hA26, hC26⟩ := print_mid_of (P := Try.prog) (Value.int .u8) 0 22 5 .i64 .i64 Try.underlying22 hi026 hsz26 A0_0 c0_0 l0_0 (ji20) (wrap64 ((wrap64 (a1 + 1)) * 64)) (of_decide_eq_true (by first | (with_reducible assumption) | assumption)) (by first | omega | exact of_decide_eq_true (by first | (with_reducible assumption) | assumption)) (of_decide_eq_true (by first | (with_reducible assumption) | assumption)) HC0_0.out
       have HR368 := Aside0.mk (Kd.C_of_reads (h1 := fun _ => rfl) (hA26 _ (Kd.reads_of_C HR0_0.out)))
       have HC368 := Aside0.mk hC26
       clear hA26 hC26 hi026 hsz26
       go_wp2_with (first | ((with_reducible refine zo (f := 46) rfl ?_); refine zC (some 29) rfl rfl Try.func46 (by kernel_rfl) rfl #[.slice A26 ((l0_0.take ((wrap64 ((wrap64 (a1 + 1)) * 64)) : Int).toNat).drop ((ji20) : Int).toNat).length (c0_0 - (ji20).toNat)] rfl (by (try simp only [List.map_toArray, List.map_cons, List.map_nil]); first | done | (rw [show ((l0_0.take ((wrap64 ((wrap64 (a1 + 1)) * 64)) : Int).toNat).drop ((ji20) : Int).toNat).length = ((wrap64 ((wrap64 (a1 + 1)) * 64)).toNat - (ji20).toNat) from (by rw [List.length_drop, List.length_take]; have h_ : ((wrap64 ((wrap64 (a1 + 1)) * 64)) : Int) ≤ (l0_0.length : Int) := of_decide_eq_true (by first | (with_reducible assumption) | assumption); omega)] <;> rfl) | (simp only [hji20]; rfl) | rfl | (simp only [List.length_drop, List.length_take]; rfl)) ?_; (with_reducible refine (spec_l1Copy.calls kj2 _ _ ((l0_0.take ((wrap64 ((wrap64 (a1 + 1)) * 64)) : Int).toNat).drop ((ji20) : Int).toNat) t369 _ ?side1 ?side2 A24.out).mono ?_); (case side1 => repeat (first | exact (Kd.C_below HR368.out HB.out) | (with_reducible refine Kd.C_alloc ?_ _) | (with_reducible refine Kd.C_drewN ?_ _) | (with_reducible refine Kd.C_drew ?_))); (case side2 => exact HC368.out); rintro e w27 ⟨v370, rfl, zX, hb⟩; refine ⟨_, rfl, ?_⟩; have n0_ := Aside0.mk (Kd.R_lower zX (zm (by exact bl HB.out))); have n1_ := Aside0.mk (zl (g := zH) (o := .cells #[.slice A0_0 l0_0.length c0_0, .slice A0_1 l0_1.length c0_1] 35 (0, 0)) (BL zG.out) hb); have n2_ := Aside0.mk (zk (by exact bl HB.out) hb); clear zG; clear HB; have zhb := n0_; have zG := n1_; have HB := n2_; clear n0_ n1_ n2_; (try clear hb); (try clear hb2); (try clear hk); (try clear hi); (try clear zX)))
       go_loopg [5, 6] kj2 (fun kq v5 v6 w' => ∃ (x5_2 : List Int) (x6_2 : Int), v6 = .int .i64 x6_2 ∧ Aside0 (spec_DiskRead.l0 kq a1 x5_2 x6_2 l0_0 l0_1 = some r) ∧ Aside0 (kq ≤ kj2) ∧ Aside0 (Kd.R (Kd.int .u8) 5 w' w.heap.size (fun _ => True) v5 x5_2) ∧ Aside0 (w'.heap[zH]? = some (.cells #[(.slice A0_0 l0_0.length c0_0), (.slice A0_1 l0_1.length c0_1)] 35 (0, 0))) ∧ Aside0 (Below w.heap.size w w'))
       case atStart => exact ⟨(t369), (0), (by first | rfl | (simp; done) | (simp [*]; done)), H', ⟨Nat.le_refl _⟩, ⟨RL zhb.out⟩, ⟨BL zG.out⟩, ⟨by repeat (first | (with_reducible first | exact HB.out | apply zf | apply ze | apply zi | refine zc ?_ zI.out) | exact HB.out)⟩⟩
       case round =>
        clear H'
        try clear c1
        try clear c2
        try clear p2
        try clear c4
        try clear c6
        try clear p6
        try clear c7
        try clear c7b0
        try clear c17
        try clear c21
        try clear c21b0
        try clear c21b1
        try clear c22
        try clear c22b0
        try clear c22b1
        try clear c23
        try clear c23b0
        try clear c23b1
        try clear zL
        try clear zM
        try clear zP
        try clear zQ
        try clear zT
        try clear zU
        try clear zcb
        try clear zdb
        try clear zY
        try clear zZ
        try clear zN
        try clear zO
        try clear zR
        try clear zS
        try clear zV
        try clear zW
        try clear zeb
        try clear zfb
        try clear zab
        try clear zbb
        try clear p2
        obtain ⟨x5_2, x6_2, rfl, HA, HK2, zJ, zG, HB⟩ := hrel
        cases gk with
        | zero => exact absurd HA.out (by simp [spec_DiskRead.l0])
        | succ k2 =>
         have H := HA.out
         clear HA
         simp only [spec_DiskRead.l0] at H
         by_cases c28 : x6_2 < (l0_1.length : Int)
         ·rw [if_pos c28] at H
          have c28b0 : decide (x6_2 < (l0_1.length : Int)) = true := decide_eq_true c28
          clear c28
          by_cases c29 : 0 ≤ x6_2
          ·rw [if_pos c29] at H
           have c29b0 : decide (0 ≤ x6_2) = true := decide_eq_true c29
           clear c29
           by_cases c30 : ((rd_T45 l0_1 x6_2).f0) = a1
           ·rw [if_pos c30] at H
            have c30b0 : (((rd_T45 l0_1 x6_2).f0) == a1) = true := beq_iff_eq.mpr c30
            have c30b1 : (((rd_T45 l0_1 x6_2).f0) != a1) = false := bne_eq_false_iff_eq.mpr c30
            clear c30
            replace H := Option.bind_eq_some_iff.mp H
            obtain ⟨t374, A310, H⟩ := H
            replace H : (spec_DiskRead.l0 k2 a1 t374 (wrap64 (x6_2 + 1)) l0_0 l0_1) = some r := H
            have A31 := Aside0.mk A310
            clear A310
            have H' := Aside0.mk H
            clear H
            have zjb : wr.cell? ⟨zH, 0, none⟩ = some (.slice A0_0 l0_0.length c0_0) := (zb zG.out 0).trans rfl
            have zkb : wr.cell? ⟨zH, 1, none⟩ = some (.slice A0_1 l0_1.length c0_1) := (zb zG.out 1).trans rfl
            have zlb := zd zG.out 0
            have zmb := zd zG.out 1
            have p372 : 0 ≤ (x6_2 : Int) := of_decide_eq_true (by first | (with_reducible assumption) | assumption)
            have q372 : x6_2 < (l0_1.length : Int) := of_decide_eq_true (by first | (with_reducible assumption) | assumption)
            obtain ⟨ad372, A372_1, c372_1, e372, hx372_0, hx372_1, hl372_1, hi372_1⟩ := at_T45 HR0_1.out x6_2 p372 q372
            cases e372
            replace hx372_0 := zn HB.out hx372_0
            replace hx372_1 := zn HB.out hx372_1
            have HR372_1 := Aside0.mk hi372_1
            have HC372_1 := Aside0.mk hl372_1
            clear hi372_1 hl372_1
            replace p372 := eq_true p372
            replace q372 := eq_true q372
            have p373 : 0 ≤ (x6_2 : Int) := of_decide_eq_true (by first | (with_reducible assumption) | assumption)
            have q373 : x6_2 < (l0_1.length : Int) := of_decide_eq_true (by first | (with_reducible assumption) | assumption)
            obtain ⟨ad373, A373_1, c373_1, e373, hx373_0, hx373_1, hl373_1, hi373_1⟩ := at_T45 HR0_1.out x6_2 p373 q373
            obtain rfl : ad372 = ad373 := (by injection e373)
            replace hx373_0 := zn HB.out hx373_0
            replace hx373_1 := zn HB.out hx373_1
            have HR373_1 := Aside0.mk hi373_1
            have HC373_1 := Aside0.mk hl373_1
            clear hi373_1 hl373_1
            replace p373 := eq_true p373
            replace q373 := eq_true q373
            have ea_ := Option.some.inj (hx372_1.symm.trans hx373_1)
            injection ea_ with ea_ en_ ec_
            subst ea_
            subst ec_
            clear en_
            go_wp2_with (first | ((with_reducible refine zo (f := 46) rfl ?_); refine zC (some 51) rfl rfl Try.func46 (by kernel_rfl) rfl #[.slice A372_1 ((rd_T45 l0_1 x6_2).f1).length c372_1] rfl (by (try simp only [List.map_toArray, List.map_cons, List.map_nil]); first | done | rfl) ?_; (with_reducible refine (spec_l1Copy.calls k2 _ _ ((rd_T45 l0_1 x6_2).f1) t374 _ ?side1 ?side2 A31.out).mono ?_); (case side1 => repeat (first | exact (Kd.C_below HR373_1.out HB.out) | (with_reducible refine Kd.C_alloc ?_ _) | (with_reducible refine Kd.C_drewN ?_ _) | (with_reducible refine Kd.C_drew ?_))); (case side2 => exact HC373_1.out); rintro e w33 ⟨v375, rfl, zX, hb⟩; refine ⟨_, rfl, ?_⟩; have n0_ := Aside0.mk (Kd.R_elder' (RL zJ.out) (Kd.R_base zX) hb); have n1_ := Aside0.mk (Kd.R_lower (Kd.R_new' zX (Kd.R_lt (RL zJ.out))) (zm (by exact bl HB.out))); have n2_ := Aside0.mk (zl (g := zH) (o := .cells #[.slice A0_0 l0_0.length c0_0, .slice (some ad372) l0_1.length c0_1] 35 (0, 0)) (BL zG.out) hb); have n3_ := Aside0.mk (zk (by exact bl HB.out) hb); clear zJ; clear zG; clear HB; have zJ := n0_; have zib := n1_; have zG := n2_; have HB := n3_; clear n0_ n1_ n2_ n3_; (try clear hb); (try clear hb2); (try clear hk); (try clear hi); (try clear zX)))
            go_roundg k2
            case measure => have := HJ2.out; have := HK2.out; omega
            case rel => exact ⟨(t374), (wrap64 (x6_2 + 1)), (by first | rfl | (simp; done) | (simp [*]; done)), H', ⟨by have := HJ2.out; have := HK2.out; omega⟩, ⟨RL (Kd.R_mono zib.out (fun _ hk => trivial))⟩, ⟨BL zG.out⟩, ⟨by repeat (first | (with_reducible first | exact HB.out | apply zf | apply ze | apply zi | refine zc ?_ zI.out) | exact HB.out)⟩⟩
           ·rw [if_neg c30] at H
            have c30b0 : (((rd_T45 l0_1 x6_2).f0) == a1) = false := beq_eq_false_iff_ne.mpr c30
            have c30b1 : (((rd_T45 l0_1 x6_2).f0) != a1) = true := bne_iff_ne.mpr c30
            have H' := Aside0.mk H
            clear H
            have znb : wr.cell? ⟨zH, 0, none⟩ = some (.slice A0_0 l0_0.length c0_0) := (zb zG.out 0).trans rfl
            have zob : wr.cell? ⟨zH, 1, none⟩ = some (.slice A0_1 l0_1.length c0_1) := (zb zG.out 1).trans rfl
            have zpb := zd zG.out 0
            have zqb := zd zG.out 1
            have p372 : 0 ≤ (x6_2 : Int) := of_decide_eq_true (by first | (with_reducible assumption) | assumption)
            have q372 : x6_2 < (l0_1.length : Int) := of_decide_eq_true (by first | (with_reducible assumption) | assumption)
            obtain ⟨ad372, A372_1, c372_1, e372, hx372_0, hx372_1, hl372_1, hi372_1⟩ := at_T45 HR0_1.out x6_2 p372 q372
            cases e372
            replace hx372_0 := zn HB.out hx372_0
            replace hx372_1 := zn HB.out hx372_1
            have HR372_1 := Aside0.mk hi372_1
            have HC372_1 := Aside0.mk hl372_1
            clear hi372_1 hl372_1
            replace p372 := eq_true p372
            replace q372 := eq_true q372
            go_wp2
            go_roundg k2
            case measure => have := HJ2.out; have := HK2.out; omega
            case rel => exact ⟨(x5_2), (wrap64 (x6_2 + 1)), (by first | rfl | (simp; done) | (simp [*]; done)), H', ⟨by have := HJ2.out; have := HK2.out; omega⟩, ⟨RL zJ.out⟩, ⟨BL zG.out⟩, ⟨by repeat (first | (with_reducible first | exact HB.out | apply zf | apply ze | apply zi | refine zc ?_ zI.out) | exact HB.out)⟩⟩
          ·rw [if_neg c29] at H
           exact absurd H (by simp)
         ·rw [if_neg c28] at H
          have c28b0 : decide (x6_2 < (l0_1.length : Int)) = false := decide_eq_false c28
          clear c28
          obtain rfl := Option.some.inj H
          have zrb : wr.cell? ⟨zH, 0, none⟩ = some (.slice A0_0 l0_0.length c0_0) := (zb zG.out 0).trans rfl
          have zsb : wr.cell? ⟨zH, 1, none⟩ = some (.slice A0_1 l0_1.length c0_1) := (zb zG.out 1).trans rfl
          have ztb := zd zG.out 0
          have zub := zd zG.out 1
          go_wp2
          go_ret
          exact ⟨_, by first | rfl | (simp [errW_none, errW_some] <;> rfl) | (simp only [← hji20]; first | rfl | (simp [errW_none, errW_some] <;> rfl)) | (simp [*, errW_none, errW_some] <;> rfl), RL zJ.out, by repeat (first | (with_reducible first | exact HB.out | apply zf | apply ze | apply zi | refine zc ?_ zI.out) | exact HB.out)⟩
      ·rw [if_neg c23] at H
       exact absurd H (by simp)
     ·rw [if_neg c22] at H
      exact absurd H (by simp)
    ·rw [if_neg c21] at H
     exact absurd H (by simp)

end Go.Proofs.Ytejecjjimggjeaa.GFnSync
