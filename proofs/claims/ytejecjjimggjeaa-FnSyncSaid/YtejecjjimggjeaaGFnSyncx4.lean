/- Written by give.py, a program of this session, that runs the kit's print and lays contracts proved by hand beside it. -/
import Derived.Test.YtejecjjimggjeaaGFnSyncx0
import Derived.Test.YtejecjjimggjeaaGFnSyncx1
import Derived.Test.YtejecjjimggjeaaGFnSyncx2
import Derived.Test.YtejecjjimggjeaaGFnSyncx3
namespace Go.Proofs.Ytejecjjimggjeaa.GFnSync
open Go.RowKit Go.Proofs.YtejecjjimggjeaaW.PrintWords Go.Proofs.YtejecjjimggjeaaW.PrintLast Go.Proofs.YtejecjjimggjeaaW.PrintMore
attribute [local go_sem] max2_int min2_int max_two min_two max_three min_three max_four min_four
attribute [local go_sem high] Go.Proofs.YtejecjjimggjeaaH.str_leq Go.Proofs.YtejecjjimggjeaaH.str_geq Go.Proofs.YtejecjjimggjeaaH.str_gtr   -- for this text's walks alone
set_option linter.unusedVariables false
set_option linter.unusedSimpArgs false

def spec_DiskWrite.j0 : Nat → Int → List Int → Bool → List Int → List (S45) → Option (List Int × (List (S45)))
 | 0, _, _, _, _, _ => none
 | k + 1, x1, x2, x31, x130000, x130001 => if x31 = true then (some (([] : List Int), ([] : List (S45)))) else ((spec_l1CopyDisk.f k x130000 x130001).bind fun bt133 => ((spec_l1Copy.f k x2).bind fun t140 => (if bt133.2.length < 4398046511104 then (some (bt133.1, (bt133.2 ++ [(⟨x1, t140⟩ : S45)]))) else (none))))
def spec_DiskWrite.f (k : Nat) (l0_0 : List Int) (l0_1 : List (S45)) (a1 : Int) (l2 : List Int) : Option (List Int × (List (S45))) := (spec_ValidDisk.f k l0_0 l0_1).bind fun t131 => (if t131 = true then (if (l0_1.length : Int) = 2000 then (spec_DiskWrite.j0 k a1 l2 true l0_0 l0_1) else (if a1 < 0 then (spec_DiskWrite.j0 k a1 l2 true l0_0 l0_1) else ((spec_l1Blocks.f l0_0 l0_1).bind fun t132 => (if a1 ≥ t132 then (spec_DiskWrite.j0 k a1 l2 true l0_0 l0_1) else (spec_DiskWrite.j0 k a1 l2 ((l2.length : Int) != 64) l0_0 l0_1))))) else (spec_DiskWrite.j0 k a1 l2 true l0_0 l0_1))
theorem spec_DiskWrite.mono_l : ∀ k, (∀ y0 y1 y2 y3 y4, LeO (spec_DiskWrite.j0 k y0 y1 y2 y3 y4) (spec_DiskWrite.j0 (k + 1) y0 y1 y2 y3 y4))
 | 0 => fun _ _ _ _ _ r h => by simp [spec_DiskWrite.j0] at h
 | k + 1 => by
  have ih0 := spec_DiskWrite.mono_l k
  ·intro y0 y1 y2 y3 y4
   unfold spec_DiskWrite.j0
   repeat' first
   | (with_reducible exact ih0 _ _ _ _ _)
   | (with_reducible exact spec_ValidDisk.mono _ _ _)
   | (with_reducible exact spec_l1Copy.mono _ _)
   | (with_reducible exact spec_l1CopyDisk.mono _ _ _)
   | (with_reducible exact LeO.refl _)
   | (with_reducible exact LeO.none _)
   | (with_reducible refine LeO.ite ?_ ?_)
   | (with_reducible refine LeO.bind ?_ (fun _ => ?_))
   | exact ih0 _ _ _ _ _
   | exact spec_ValidDisk.mono _ _ _
   | exact spec_l1Copy.mono _ _
   | exact spec_l1CopyDisk.mono _ _ _
   | exact LeO.none _
   | refine LeO.ite ?_ ?_
   | refine LeO.bind ?_ (fun _ => ?_)
theorem spec_DiskWrite.mono : ∀ a0 a1 a2 a3 k, LeO (spec_DiskWrite.f k a0 a1 a2 a3) (spec_DiskWrite.f (k + 1) a0 a1 a2 a3) := by
 intro a0 a1 a2 a3 k
 have ih0 := spec_DiskWrite.mono_l k
 unfold spec_DiskWrite.f
 repeat' first
   | (with_reducible exact ih0 _ _ _ _ _)
   | (with_reducible exact spec_ValidDisk.mono _ _ _)
   | (with_reducible exact spec_l1Copy.mono _ _)
   | (with_reducible exact spec_l1CopyDisk.mono _ _ _)
   | (with_reducible exact LeO.refl _)
   | (with_reducible exact LeO.none _)
   | (with_reducible refine LeO.ite ?_ ?_)
   | (with_reducible refine LeO.bind ?_ (fun _ => ?_))
   | exact ih0 _ _ _ _ _
   | exact spec_ValidDisk.mono _ _ _
   | exact spec_l1Copy.mono _ _
   | exact spec_l1CopyDisk.mono _ _ _
   | exact LeO.none _
   | refine LeO.ite ?_ ?_
   | refine LeO.bind ?_ (fun _ => ?_)
def spec_DiskWrite.T4 : Bool × List (List Nat × List Nat) := (true, [([], []), ([0], [0]), ([], []), ([], []), ([3], [3]), ([2, 4], [2, 4]), ([5], [5]), ([1, 6, 4], [1, 6]), ([0, 1, 2, 3, 4, 5, 6, 7], []), ([8, 7, 7, 0, 1, 2, 3, 4, 5, 6, 7], [7, 8])])
def spec_DiskWrite.B4 : List Nat := [0, 1, 0, 0, 8, 28, 60, 127, 255, 511]
theorem spec_DiskWrite.tab4 : rtab .any (opsOf Try.f17 4) = spec_DiskWrite.T4 := by kernel_rfl
theorem spec_DiskWrite.bits4 : waitsOk spec_DiskWrite.T4.2 spec_DiskWrite.B4 = true := by kernel_rfl
set_option maxHeartbeats 8000000 in
set_option maxRecDepth 100000 in
theorem spec_DiskWrite.calls (k : Nat) (A0_0 : Option Addr) (c0_0 : Nat) (l0_0 : List Int) (A0_1 : Option Addr) (c0_1 : Nat) (l0_1 : List (S45)) (a1 : Int) (A2 : Option Addr) (c2 : Nat) (l2 : List Int) (r1 : List Int) (r2 : List (S45)) (w : World) (hr0_0 : Kd.C (Kd.int .u8) w A0_0 l0_0.length l0_0) (hc0_0 : l0_0.length ≤ c0_0) (hr0_1 : Kd.C k45 w A0_1 l0_1.length l0_1) (hc0_1 : l0_1.length ≤ c0_1) (hr2 : Kd.C (Kd.int .u8) w A2 l2.length l2) (hc2 : l2.length ≤ c2) (h : spec_DiskWrite.f k l0_0 l0_1 a1 l2 = some (r1, r2)) :
  Calls Try.prog 17 #[.agg #[.slice A0_0 l0_0.length c0_0, .slice A0_1 l0_1.length c0_1], .int .i64 a1, .slice A2 l2.length c2] w fun e w' => ∃ v0_ v1_ : Value, e = .returned (.agg #[v0_, v1_]) ∧ Kd.R (Kd.int .u8) 5 w' w.heap.size (fun _ => True) v0_ r1 ∧ Kd.S k45 45 w' w.heap.size (fun k_ => some k_ ≠ (v0_ : Value).ownBlock) v1_ r2 ∧ Below w.heap.size w w' := by
 have hu35 := Try.underlying35
 have hu45 := Try.underlying45
 have HR0_0 := Aside0.mk hr0_0
 have HC0_0 := Aside0.mk hc0_0
 clear hr0_0 hc0_0
 have HR0_1 := Aside0.mk hr0_1
 have HC0_1 := Aside0.mk hc0_1
 clear hr0_1 hc0_1
 have HR2 := Aside0.mk hr2
 have HC2 := Aside0.mk hc2
 clear hr2 hc2
 have HB := Aside0.mk (Below.refl w.heap.size w)
 have H : ((spec_ValidDisk.f k l0_0 l0_1).bind fun t131 => (if t131 = true then (if (l0_1.length : Int) = 2000 then (spec_DiskWrite.j0 k a1 l2 true l0_0 l0_1) else (if a1 < 0 then (spec_DiskWrite.j0 k a1 l2 true l0_0 l0_1) else ((spec_l1Blocks.f l0_0 l0_1).bind fun t132 => (if a1 ≥ t132 then (spec_DiskWrite.j0 k a1 l2 true l0_0 l0_1) else (spec_DiskWrite.j0 k a1 l2 ((l2.length : Int) != 64) l0_0 l0_1))))) else (spec_DiskWrite.j0 k a1 l2 true l0_0 l0_1))) = some (r1, r2) := h
 clear h
 have HC4 := Aside0.mk H
 clear H
 go_enter Try.func17, Try.ntmps17
 go_upto_region 1 with (first | ((with_reducible refine zt (N := 3) rfl ?_); (try (refine gate_guard (by rfl) ?_; dsimp only)); refine zF ?hg (N := 3) ?hd (cs := #[.slice A0_0 l0_0.length c0_0, .slice A0_1 l0_1.length c0_1]) (t := 35) ?hr ?_; (case hd => rfl); (case hg => rfl); (case hr => first | (go_simp; done) | (go_simp; rfl)); intro zI hg w5 hbox hb; have n0_ := Aside0.mk (zk (by exact bl HB.out) hb); have n1_ := Aside0.mk (hbox); have n2_ := Aside0.mk ((by rw [hg]; exact (zm (by exact bl HB.out)) : w.heap.size ≤ zI)); have n3_ := Aside0.mk ((by rw [hg]; exact (zm (by exact bl HB.out)) : w.heap.size ≤ zI)); clear HB; have HB := n0_; have zG := n1_; have GW129 := n2_; have zQ := n3_; clear n0_ n1_ n2_ n3_; clear hb hbox hg) | ((with_reducible refine zt (N := 6) rfl ?_); (try (refine gate_guard (by rfl) ?_; dsimp only)); refine zF ?hg (N := 6) ?hd (cs := #[.slice none 0 0, .slice none 0 0]) (t := 35) ?hr ?_; (case hd => rfl); (case hg => rfl); (case hr => first | (go_simp; done) | (go_simp; rfl)); intro zL hg w6 hbox hb; have n0_ := Aside0.mk (zl (g := zI) (o := .cells #[.slice A0_0 l0_0.length c0_0, .slice A0_1 l0_1.length c0_1] 35 (0, 0)) (BL zG.out) hb); have n1_ := Aside0.mk (zk (by exact bl HB.out) hb); have n2_ := Aside0.mk (hbox); have n3_ := Aside0.mk ((by rw [hg]; exact (zm (by exact bl HB.out)) : w.heap.size ≤ zL)); have n4_ := Aside0.mk ((by rw [hg]; exact (zm (by exact bl HB.out)) : w.heap.size ≤ zL)); have n5_ := Aside0.mk ((by rw [hg]; exact Nat.ne_of_lt (zr (g := zI) (o := .cells #[.slice A0_0 l0_0.length c0_0, .slice A0_1 l0_1.length c0_1] 35 (0, 0)) (BL zG.out)) : zI ≠ zL)); have n6_ := Aside0.mk ((by rw [hg]; exact Nat.ne_of_gt (zr (g := zI) (o := .cells #[.slice A0_0 l0_0.length c0_0, .slice A0_1 l0_1.length c0_1] 35 (0, 0)) (BL zG.out)) : zL ≠ zI)); clear zG; clear HB; have zG := n0_; have HB := n1_; have zH := n2_; have GW130 := n3_; have zR := n4_; have zO := n5_; have zP := n6_; clear n0_ n1_ n2_ n3_ n4_ n5_ n6_; clear hb hbox hg))
 (try simp only [Act.put, List.setIfInBounds_toArray, List.set_cons_zero, List.set_cons_succ])
 go_cut [31] (fun v31 wc => ∃ (kq : Nat) (x31_3 : Bool), v31 = .bool x31_3 ∧ Aside0 (spec_DiskWrite.j0 kq a1 l2 x31_3 l0_0 l0_1 = some (r1, r2)) ∧ Aside0 (kq ≤ k) ∧ Aside0 (wc.heap[zI]? = some (.cells #[(.slice A0_0 l0_0.length c0_0), (.slice A0_1 l0_1.length c0_1)] 35 (0, 0))) ∧ Aside0 (wc.heap[zL]? = some (.cells #[(.slice none 0 0), (.slice none 0 0)] 35 (0, 0))) ∧ Aside0 (Below w.heap.size w wc))
 case first =>
  have H := HC4.out
  clear HC4
  replace H := Option.bind_eq_some_iff.mp H
  obtain ⟨t131, A70, H⟩ := H
  replace H : (if t131 = true then (if (l0_1.length : Int) = 2000 then (spec_DiskWrite.j0 k a1 l2 true l0_0 l0_1) else (if a1 < 0 then (spec_DiskWrite.j0 k a1 l2 true l0_0 l0_1) else ((spec_l1Blocks.f l0_0 l0_1).bind fun t132 => (if a1 ≥ t132 then (spec_DiskWrite.j0 k a1 l2 true l0_0 l0_1) else (spec_DiskWrite.j0 k a1 l2 ((l2.length : Int) != 64) l0_0 l0_1))))) else (spec_DiskWrite.j0 k a1 l2 true l0_0 l0_1)) = some (r1, r2) := H
  have A7 := Aside0.mk A70
  clear A70
  by_cases c8 : t131 = true
  ·subst c8
   have H1 : (if (l0_1.length : Int) = 2000 then (spec_DiskWrite.j0 k a1 l2 true l0_0 l0_1) else (if a1 < 0 then (spec_DiskWrite.j0 k a1 l2 true l0_0 l0_1) else ((spec_l1Blocks.f l0_0 l0_1).bind fun t132 => (if a1 ≥ t132 then (spec_DiskWrite.j0 k a1 l2 true l0_0 l0_1) else (spec_DiskWrite.j0 k a1 l2 ((l2.length : Int) != 64) l0_0 l0_1))))) = some (r1, r2) := by rw [if_pos rfl] at H; exact H
   clear H
   have H := H1
   clear H1
   by_cases c9 : (l0_1.length : Int) = 2000
   ·rw [if_pos c9] at H
    have c9b0 : ((l0_1.length : Int) == 2000) = true := beq_iff_eq.mpr c9
    have c9b1 : ((l0_1.length : Int) != 2000) = false := bne_eq_false_iff_eq.mpr c9
    clear c9
    (first | rw [c9b0] | (simp only [zp, zq]; rw [c9b0]) | skip)
    have H' := Aside0.mk H
    clear H
    have zfc := zO.out
    have zgc := zP.out
    have zab : w6.cell? ⟨zI, 0, none⟩ = some (.slice A0_0 l0_0.length c0_0) := (zb zG.out 0).trans rfl
    have zbb : w6.cell? ⟨zI, 1, none⟩ = some (.slice A0_1 l0_1.length c0_1) := (zb zG.out 1).trans rfl
    have zcb := zd zG.out 0
    have zdb := zd zG.out 1
    go_wp2_with (first | ((with_reducible refine zo (f := 44) rfl ?_); refine zC (some 9) rfl rfl Try.func44 (by kernel_rfl) rfl #[.agg #[.slice A0_0 l0_0.length c0_0, .slice A0_1 l0_1.length c0_1]] rfl (by (try simp only [List.map_toArray, List.map_cons, List.map_nil]); first | done | rfl) ?_; (with_reducible refine (spec_ValidDisk.calls k _ _ l0_0 _ _ l0_1 true _ ?side1 ?side2 ?side3 ?side4 A7.out).mono ?_); (case side1 => repeat (first | exact (Kd.C_below HR0_0.out HB.out) | (with_reducible refine Kd.C_alloc ?_ _) | (with_reducible refine Kd.C_drewN ?_ _) | (with_reducible refine Kd.C_drew ?_))); (case side2 => exact HC0_0.out); (case side3 => repeat (first | exact (Kd.C_below HR0_1.out HB.out) | (with_reducible refine Kd.C_alloc ?_ _) | (with_reducible refine Kd.C_drewN ?_ _) | (with_reducible refine Kd.C_drew ?_))); (case side4 => exact HC0_1.out); rintro e w12 ⟨rfl, hb⟩; refine ⟨_, rfl, ?_⟩; have n0_ := Aside0.mk (zl (g := zI) (o := .cells #[.slice A0_0 l0_0.length c0_0, .slice A0_1 l0_1.length c0_1] 35 (0, 0)) (BL zG.out) hb); have n1_ := Aside0.mk (zl (g := zL) (o := .cells #[.slice none 0 0, .slice none 0 0] 35 (0, 0)) (BL zH.out) hb); have n2_ := Aside0.mk (zk (by exact bl HB.out) hb); clear zG; clear zH; clear HB; have zG := n0_; have zH := n1_; have HB := n2_; clear n0_ n1_ n2_; (try clear hb); (try clear hb2); (try clear hk); (try clear hi); have zeb : w12.cell? ⟨zI, 0, none⟩ = some (.slice A0_0 l0_0.length c0_0) := (zb zG.out 0).trans rfl; have zfb : w12.cell? ⟨zI, 1, none⟩ = some (.slice A0_1 l0_1.length c0_1) := (zb zG.out 1).trans rfl; have zgb := zd zG.out 0; have zhb := zd zG.out 1))
    go_meet
    case rel => exact ⟨_, (true), (by first | rfl | (simp; done) | (simp [*]; done)), H', ⟨by first | omega | exact Nat.le_refl _⟩, ⟨BL zG.out⟩, ⟨BL zH.out⟩, ⟨by repeat (first | (with_reducible first | exact HB.out | apply zf | apply ze | apply zi | refine zc ?_ zQ.out | refine zc ?_ zR.out) | exact HB.out)⟩⟩
   ·rw [if_neg c9] at H
    have c9b0 : ((l0_1.length : Int) == 2000) = false := beq_eq_false_iff_ne.mpr c9
    have c9b1 : ((l0_1.length : Int) != 2000) = true := bne_iff_ne.mpr c9
    (first | rw [c9b0] | (simp only [zp, zq]; rw [c9b0]) | skip)
    by_cases c14 : a1 < 0
    ·rw [if_pos c14] at H
     have c14b0 : decide (a1 < 0) = true := decide_eq_true c14
     clear c14
     have H' := Aside0.mk H
     clear H
     have zhc := zO.out
     have zic := zP.out
     have zib : w6.cell? ⟨zI, 0, none⟩ = some (.slice A0_0 l0_0.length c0_0) := (zb zG.out 0).trans rfl
     have zjb : w6.cell? ⟨zI, 1, none⟩ = some (.slice A0_1 l0_1.length c0_1) := (zb zG.out 1).trans rfl
     have zkb := zd zG.out 0
     have zlb := zd zG.out 1
     go_wp2_with (first | ((with_reducible refine zo (f := 44) rfl ?_); refine zC (some 9) rfl rfl Try.func44 (by kernel_rfl) rfl #[.agg #[.slice A0_0 l0_0.length c0_0, .slice A0_1 l0_1.length c0_1]] rfl (by (try simp only [List.map_toArray, List.map_cons, List.map_nil]); first | done | rfl) ?_; (with_reducible refine (spec_ValidDisk.calls k _ _ l0_0 _ _ l0_1 true _ ?side1 ?side2 ?side3 ?side4 A7.out).mono ?_); (case side1 => repeat (first | exact (Kd.C_below HR0_0.out HB.out) | (with_reducible refine Kd.C_alloc ?_ _) | (with_reducible refine Kd.C_drewN ?_ _) | (with_reducible refine Kd.C_drew ?_))); (case side2 => exact HC0_0.out); (case side3 => repeat (first | exact (Kd.C_below HR0_1.out HB.out) | (with_reducible refine Kd.C_alloc ?_ _) | (with_reducible refine Kd.C_drewN ?_ _) | (with_reducible refine Kd.C_drew ?_))); (case side4 => exact HC0_1.out); rintro e w17 ⟨rfl, hb⟩; refine ⟨_, rfl, ?_⟩; have n0_ := Aside0.mk (zl (g := zI) (o := .cells #[.slice A0_0 l0_0.length c0_0, .slice A0_1 l0_1.length c0_1] 35 (0, 0)) (BL zG.out) hb); have n1_ := Aside0.mk (zl (g := zL) (o := .cells #[.slice none 0 0, .slice none 0 0] 35 (0, 0)) (BL zH.out) hb); have n2_ := Aside0.mk (zk (by exact bl HB.out) hb); clear zG; clear zH; clear HB; have zG := n0_; have zH := n1_; have HB := n2_; clear n0_ n1_ n2_; (try clear hb); (try clear hb2); (try clear hk); (try clear hi); have zmb : w17.cell? ⟨zI, 0, none⟩ = some (.slice A0_0 l0_0.length c0_0) := (zb zG.out 0).trans rfl; have znb : w17.cell? ⟨zI, 1, none⟩ = some (.slice A0_1 l0_1.length c0_1) := (zb zG.out 1).trans rfl; have zob := zd zG.out 0; have zpb := zd zG.out 1))
     go_meet
     case rel => exact ⟨_, (true), (by first | rfl | (simp; done) | (simp [*]; done)), H', ⟨by first | omega | exact Nat.le_refl _⟩, ⟨BL zG.out⟩, ⟨BL zH.out⟩, ⟨by repeat (first | (with_reducible first | exact HB.out | apply zf | apply ze | apply zi | refine zc ?_ zQ.out | refine zc ?_ zR.out) | exact HB.out)⟩⟩
    ·rw [if_neg c14] at H
     have c14b0 : decide (a1 < 0) = false := decide_eq_false c14
     clear c14
     replace H := Option.bind_eq_some_iff.mp H
     obtain ⟨t132, A190, H⟩ := H
     replace H : (if a1 ≥ t132 then (spec_DiskWrite.j0 k a1 l2 true l0_0 l0_1) else (spec_DiskWrite.j0 k a1 l2 ((l2.length : Int) != 64) l0_0 l0_1)) = some (r1, r2) := H
     have A19 := Aside0.mk A190
     clear A190
     by_cases c20 : a1 ≥ t132
     ·rw [if_pos c20] at H
      have c20b0 : decide (t132 ≤ a1) = true := decide_eq_true c20
      clear c20
      have H' := Aside0.mk H
      clear H
      have zjc := zO.out
      have zkc := zP.out
      have zqb : w6.cell? ⟨zI, 0, none⟩ = some (.slice A0_0 l0_0.length c0_0) := (zb zG.out 0).trans rfl
      have zrb : w6.cell? ⟨zI, 1, none⟩ = some (.slice A0_1 l0_1.length c0_1) := (zb zG.out 1).trans rfl
      have zsb := zd zG.out 0
      have ztb := zd zG.out 1
      go_wp2_with (first | ((with_reducible refine zo (f := 44) rfl ?_); refine zC (some 9) rfl rfl Try.func44 (by kernel_rfl) rfl #[.agg #[.slice A0_0 l0_0.length c0_0, .slice A0_1 l0_1.length c0_1]] rfl (by (try simp only [List.map_toArray, List.map_cons, List.map_nil]); first | done | rfl) ?_; (with_reducible refine (spec_ValidDisk.calls k _ _ l0_0 _ _ l0_1 true _ ?side1 ?side2 ?side3 ?side4 A7.out).mono ?_); (case side1 => repeat (first | exact (Kd.C_below HR0_0.out HB.out) | (with_reducible refine Kd.C_alloc ?_ _) | (with_reducible refine Kd.C_drewN ?_ _) | (with_reducible refine Kd.C_drew ?_))); (case side2 => exact HC0_0.out); (case side3 => repeat (first | exact (Kd.C_below HR0_1.out HB.out) | (with_reducible refine Kd.C_alloc ?_ _) | (with_reducible refine Kd.C_drewN ?_ _) | (with_reducible refine Kd.C_drew ?_))); (case side4 => exact HC0_1.out); rintro e w23 ⟨rfl, hb⟩; refine ⟨_, rfl, ?_⟩; have n0_ := Aside0.mk (zl (g := zI) (o := .cells #[.slice A0_0 l0_0.length c0_0, .slice A0_1 l0_1.length c0_1] 35 (0, 0)) (BL zG.out) hb); have n1_ := Aside0.mk (zl (g := zL) (o := .cells #[.slice none 0 0, .slice none 0 0] 35 (0, 0)) (BL zH.out) hb); have n2_ := Aside0.mk (zk (by exact bl HB.out) hb); clear zG; clear zH; clear HB; have zG := n0_; have zH := n1_; have HB := n2_; clear n0_ n1_ n2_; (try clear hb); (try clear hb2); (try clear hk); (try clear hi); have zub : w23.cell? ⟨zI, 0, none⟩ = some (.slice A0_0 l0_0.length c0_0) := (zb zG.out 0).trans rfl; have zvb : w23.cell? ⟨zI, 1, none⟩ = some (.slice A0_1 l0_1.length c0_1) := (zb zG.out 1).trans rfl; have zwb := zd zG.out 0; have zxb := zd zG.out 1) | (go_at_call 37; (with_reducible refine (spec_l1Blocks.calls _ _ l0_0 _ _ l0_1 t132 _ ?side1 ?side2 ?side3 ?side4 A19.out).mono ?_); (case side1 => repeat (first | exact (Kd.C_below HR0_0.out HB.out) | (with_reducible refine Kd.C_alloc ?_ _) | (with_reducible refine Kd.C_drewN ?_ _) | (with_reducible refine Kd.C_drew ?_))); (case side2 => exact HC0_0.out); (case side3 => repeat (first | exact (Kd.C_below HR0_1.out HB.out) | (with_reducible refine Kd.C_alloc ?_ _) | (with_reducible refine Kd.C_drewN ?_ _) | (with_reducible refine Kd.C_drew ?_))); (case side4 => exact HC0_1.out); rintro e w25 ⟨rfl, hb⟩; have n0_ := Aside0.mk (zl (g := zI) (o := .cells #[.slice A0_0 l0_0.length c0_0, .slice A0_1 l0_1.length c0_1] 35 (0, 0)) (BL zG.out) hb); have n1_ := Aside0.mk (zl (g := zL) (o := .cells #[.slice none 0 0, .slice none 0 0] 35 (0, 0)) (BL zH.out) hb); have n2_ := Aside0.mk (zk (by exact bl HB.out) hb); clear zG; clear zH; clear HB; have zG := n0_; have zH := n1_; have HB := n2_; clear n0_ n1_ n2_; (try clear hb); (try clear hb2); (try clear hk); (try clear hi)))
      go_meet
      case rel => exact ⟨_, (true), (by first | rfl | (simp; done) | (simp [*]; done)), H', ⟨by first | omega | exact Nat.le_refl _⟩, ⟨BL zG.out⟩, ⟨BL zH.out⟩, ⟨by repeat (first | (with_reducible first | exact HB.out | apply zf | apply ze | apply zi | refine zc ?_ zQ.out | refine zc ?_ zR.out) | exact HB.out)⟩⟩
     ·rw [if_neg c20] at H
      have c20b0 : decide (t132 ≤ a1) = false := decide_eq_false c20
      clear c20
      have H' := Aside0.mk H
      clear H
      have zlc := zO.out
      have zmc := zP.out
      have zyb : w6.cell? ⟨zI, 0, none⟩ = some (.slice A0_0 l0_0.length c0_0) := (zb zG.out 0).trans rfl
      have zzb : w6.cell? ⟨zI, 1, none⟩ = some (.slice A0_1 l0_1.length c0_1) := (zb zG.out 1).trans rfl
      have zAb := zd zG.out 0
      have zBb := zd zG.out 1
      go_wp2_with (first | ((with_reducible refine zo (f := 44) rfl ?_); refine zC (some 9) rfl rfl Try.func44 (by kernel_rfl) rfl #[.agg #[.slice A0_0 l0_0.length c0_0, .slice A0_1 l0_1.length c0_1]] rfl (by (try simp only [List.map_toArray, List.map_cons, List.map_nil]); first | done | rfl) ?_; (with_reducible refine (spec_ValidDisk.calls k _ _ l0_0 _ _ l0_1 true _ ?side1 ?side2 ?side3 ?side4 A7.out).mono ?_); (case side1 => repeat (first | exact (Kd.C_below HR0_0.out HB.out) | (with_reducible refine Kd.C_alloc ?_ _) | (with_reducible refine Kd.C_drewN ?_ _) | (with_reducible refine Kd.C_drew ?_))); (case side2 => exact HC0_0.out); (case side3 => repeat (first | exact (Kd.C_below HR0_1.out HB.out) | (with_reducible refine Kd.C_alloc ?_ _) | (with_reducible refine Kd.C_drewN ?_ _) | (with_reducible refine Kd.C_drew ?_))); (case side4 => exact HC0_1.out); rintro e w28 ⟨rfl, hb⟩; refine ⟨_, rfl, ?_⟩; have n0_ := Aside0.mk (zl (g := zI) (o := .cells #[.slice A0_0 l0_0.length c0_0, .slice A0_1 l0_1.length c0_1] 35 (0, 0)) (BL zG.out) hb); have n1_ := Aside0.mk (zl (g := zL) (o := .cells #[.slice none 0 0, .slice none 0 0] 35 (0, 0)) (BL zH.out) hb); have n2_ := Aside0.mk (zk (by exact bl HB.out) hb); clear zG; clear zH; clear HB; have zG := n0_; have zH := n1_; have HB := n2_; clear n0_ n1_ n2_; (try clear hb); (try clear hb2); (try clear hk); (try clear hi); have zCb : w28.cell? ⟨zI, 0, none⟩ = some (.slice A0_0 l0_0.length c0_0) := (zb zG.out 0).trans rfl; have zDb : w28.cell? ⟨zI, 1, none⟩ = some (.slice A0_1 l0_1.length c0_1) := (zb zG.out 1).trans rfl; have zEb := zd zG.out 0; have zFb := zd zG.out 1) | (go_at_call 37; (with_reducible refine (spec_l1Blocks.calls _ _ l0_0 _ _ l0_1 t132 _ ?side1 ?side2 ?side3 ?side4 A19.out).mono ?_); (case side1 => repeat (first | exact (Kd.C_below HR0_0.out HB.out) | (with_reducible refine Kd.C_alloc ?_ _) | (with_reducible refine Kd.C_drewN ?_ _) | (with_reducible refine Kd.C_drew ?_))); (case side2 => exact HC0_0.out); (case side3 => repeat (first | exact (Kd.C_below HR0_1.out HB.out) | (with_reducible refine Kd.C_alloc ?_ _) | (with_reducible refine Kd.C_drewN ?_ _) | (with_reducible refine Kd.C_drew ?_))); (case side4 => exact HC0_1.out); rintro e w30 ⟨rfl, hb⟩; have n0_ := Aside0.mk (zl (g := zI) (o := .cells #[.slice A0_0 l0_0.length c0_0, .slice A0_1 l0_1.length c0_1] 35 (0, 0)) (BL zG.out) hb); have n1_ := Aside0.mk (zl (g := zL) (o := .cells #[.slice none 0 0, .slice none 0 0] 35 (0, 0)) (BL zH.out) hb); have n2_ := Aside0.mk (zk (by exact bl HB.out) hb); clear zG; clear zH; clear HB; have zG := n0_; have zH := n1_; have HB := n2_; clear n0_ n1_ n2_; (try clear hb); (try clear hb2); (try clear hk); (try clear hi)))
      go_meet
      case rel => exact ⟨_, (((l2.length : Int) != 64)), (by first | rfl | (simp; done) | (simp [*]; done)), H', ⟨by first | omega | exact Nat.le_refl _⟩, ⟨BL zG.out⟩, ⟨BL zH.out⟩, ⟨by repeat (first | (with_reducible first | exact HB.out | apply zf | apply ze | apply zi | refine zc ?_ zQ.out | refine zc ?_ zR.out) | exact HB.out)⟩⟩
  ·replace c8 := Bool.eq_false_iff.mpr c8
   subst c8
   have H1 : (spec_DiskWrite.j0 k a1 l2 true l0_0 l0_1) = some (r1, r2) := by rw [if_neg (show ¬ (false = true) by decide)] at H; exact H
   clear H
   have H := H1
   clear H1
   have H' := Aside0.mk H
   clear H
   have znc := zO.out
   have zoc := zP.out
   have zGb : w6.cell? ⟨zI, 0, none⟩ = some (.slice A0_0 l0_0.length c0_0) := (zb zG.out 0).trans rfl
   have zHb : w6.cell? ⟨zI, 1, none⟩ = some (.slice A0_1 l0_1.length c0_1) := (zb zG.out 1).trans rfl
   have zIb := zd zG.out 0
   have zJb := zd zG.out 1
   go_wp2_with (first | ((with_reducible refine zo (f := 44) rfl ?_); refine zC (some 9) rfl rfl Try.func44 (by kernel_rfl) rfl #[.agg #[.slice A0_0 l0_0.length c0_0, .slice A0_1 l0_1.length c0_1]] rfl (by (try simp only [List.map_toArray, List.map_cons, List.map_nil]); first | done | rfl) ?_; (with_reducible refine (spec_ValidDisk.calls k _ _ l0_0 _ _ l0_1 false _ ?side1 ?side2 ?side3 ?side4 A7.out).mono ?_); (case side1 => repeat (first | exact (Kd.C_below HR0_0.out HB.out) | (with_reducible refine Kd.C_alloc ?_ _) | (with_reducible refine Kd.C_drewN ?_ _) | (with_reducible refine Kd.C_drew ?_))); (case side2 => exact HC0_0.out); (case side3 => repeat (first | exact (Kd.C_below HR0_1.out HB.out) | (with_reducible refine Kd.C_alloc ?_ _) | (with_reducible refine Kd.C_drewN ?_ _) | (with_reducible refine Kd.C_drew ?_))); (case side4 => exact HC0_1.out); rintro e w33 ⟨rfl, hb⟩; refine ⟨_, rfl, ?_⟩; have n0_ := Aside0.mk (zl (g := zI) (o := .cells #[.slice A0_0 l0_0.length c0_0, .slice A0_1 l0_1.length c0_1] 35 (0, 0)) (BL zG.out) hb); have n1_ := Aside0.mk (zl (g := zL) (o := .cells #[.slice none 0 0, .slice none 0 0] 35 (0, 0)) (BL zH.out) hb); have n2_ := Aside0.mk (zk (by exact bl HB.out) hb); clear zG; clear zH; clear HB; have zG := n0_; have zH := n1_; have HB := n2_; clear n0_ n1_ n2_; (try clear hb); (try clear hb2); (try clear hk); (try clear hi)))
   go_meet
   case rel => exact ⟨_, (true), (by first | rfl | (simp; done) | (simp [*]; done)), H', ⟨by first | omega | exact Nat.le_refl _⟩, ⟨BL zG.out⟩, ⟨BL zH.out⟩, ⟨by repeat (first | (with_reducible first | exact HB.out | apply zf | apply ze | apply zi | refine zc ?_ zQ.out | refine zc ?_ zR.out) | exact HB.out)⟩⟩
 case rest =>
  clear HC4
  try clear c1
  try clear c2
  try clear p2
  try clear c3
  try clear c4
  try clear c8
  try clear c9
  try clear c9b0
  try clear c9b1
  try clear c10
  try clear c14
  try clear c14b0
  try clear c15
  try clear c17
  try clear c20
  try clear c20b0
  try clear c21
  try clear c26
  try clear c31
  try clear zab
  try clear zbb
  try clear zeb
  try clear zfb
  try clear zib
  try clear zjb
  try clear zmb
  try clear znb
  try clear zqb
  try clear zrb
  try clear zub
  try clear zvb
  try clear zyb
  try clear zzb
  try clear zCb
  try clear zDb
  try clear zGb
  try clear zHb
  try clear zcb
  try clear zdb
  try clear zgb
  try clear zhb
  try clear zkb
  try clear zlb
  try clear zob
  try clear zpb
  try clear zsb
  try clear ztb
  try clear zwb
  try clear zxb
  try clear zAb
  try clear zBb
  try clear zEb
  try clear zFb
  try clear zIb
  try clear zJb
  obtain ⟨kq, x31_3, rfl, HA, HJ3, zG, zH, HB⟩ := hcut
  cases kq with
  | zero => exact absurd HA.out (by simp [spec_DiskWrite.j0])
  | succ kj3 =>
   have H := HA.out
   clear HA
   simp only [spec_DiskWrite.j0] at H
   by_cases c34 : x31_3 = true
   ·subst c34
    have H1 : (some (([] : List Int), ([] : List (S45)))) = some (r1, r2) := by rw [if_pos rfl] at H; exact H
    clear H
    have H := H1
    clear H1
    simp only [Option.some.injEq, Prod.mk.injEq] at H
    obtain ⟨rfl, rfl⟩ := H
    have zpc := zP.out
    have zqc := zO.out
    have zLb : wc.cell? ⟨zL, 0, none⟩ = some (.slice none 0 0) := (zb zH.out 0).trans rfl
    have zMb : wc.cell? ⟨zL, 1, none⟩ = some (.slice none 0 0) := (zb zH.out 1).trans rfl
    have zNb := zd zH.out 0
    have zOb := zd zH.out 1
    go_wp2
    refine bodyPost_ret (results_cell_row rfl _ _ zL 35 #[.slice none 0 0, .slice none 0 0] (0, 0) _ rfl (by (with_reducible repeat (first | refine zj ?_ _ | refine zg ?_ | refine zh ?_ _)); refine zz (cs := #[.slice none 0 0, .slice none 0 0]) ?_ 1 _ rfl; (with_reducible repeat (first | refine zj ?_ _ | refine zg ?_ | refine zh ?_ _)); refine zz (cs := #[.slice none 0 0, .slice none 0 0]) ?_ 0 _ rfl; (with_reducible repeat (first | refine zj ?_ _ | refine zg ?_ | refine zh ?_ _)); exact zH.out) Try.underlying35 rfl (by kernel_rfl)) rfl ?_
    exact ⟨_, _, by first | rfl | (simp [errW_none, errW_some] <;> rfl) | (simp [*, errW_none, errW_some] <;> rfl), by first | exact Kd.R_nil _ _ _ _ _ | exact Kd.N_nil _ _ _ _ _ | exact Kd.V_nil _ _ _ _ _ | exact Kd.Q_nil _ _ _ _ _ | exact Kd.S_nil _ _ _ _ _, by first | exact Kd.S_nil _ _ _ _ _ | exact Kd.N_nil _ _ _ _ _ | exact Kd.V_nil _ _ _ _ _ | exact Kd.Q_nil _ _ _ _ _ | exact Kd.R_nil _ _ _ _ _, by repeat (first | (with_reducible first | exact HB.out | apply zf | apply ze | apply zi | refine zc ?_ zQ.out | refine zc ?_ zR.out) | exact HB.out)⟩
   ·replace c34 := Bool.eq_false_iff.mpr c34
    subst c34
    have H1 : ((spec_l1CopyDisk.f kj3 l0_0 l0_1).bind fun bt133 => ((spec_l1Copy.f kj3 l2).bind fun t140 => (if bt133.2.length < 4398046511104 then (some (bt133.1, (bt133.2 ++ [(⟨a1, t140⟩ : S45)]))) else (none)))) = some (r1, r2) := by rw [if_neg (show ¬ (false = true) by decide)] at H; exact H
    clear H
    have H := H1
    clear H1
    replace H := Option.bind_eq_some_iff.mp H
    obtain ⟨⟨t133, t136⟩, A370, H⟩ := H
    replace H : ((spec_l1Copy.f kj3 l2).bind fun t140 => (if t136.length < 4398046511104 then (some (t133, (t136 ++ [(⟨a1, t140⟩ : S45)]))) else (none))) = some (r1, r2) := H
    have A37 := Aside0.mk A370
    clear A370
    replace H := Option.bind_eq_some_iff.mp H
    obtain ⟨t140, A380, H⟩ := H
    replace H : (if t136.length < 4398046511104 then (some (t133, (t136 ++ [(⟨a1, t140⟩ : S45)]))) else (none)) = some (r1, r2) := H
    have A38 := Aside0.mk A380
    clear A380
    by_cases c39 : t136.length < 4398046511104
    ·rw [if_pos c39] at H
     have LMc39 := Aside0.mk c39
     clear c39
     obtain ⟨y143, hy143⟩ : ∃ y_ : List (S45), y_ = (t136 ++ [(⟨a1, t140⟩ : S45)]) := ⟨_, rfl⟩
     replace H : (some (t133, y143)) = some (r1, r2) := by first | (rw [hy143]; with_reducible exact H) | (have H2_ := (Option.bind_some _ _).symm.trans H; rw [hy143]; with_reducible exact H2_) | (have H2_ := (Option.bind_some _ _).symm.trans H; with_reducible exact H2_) | with_reducible exact H | (rw [hy143]; exact H) | exact H
     have Ny143 := Aside0.mk hy143
     clear hy143
     simp only [Option.some.injEq, Prod.mk.injEq] at H
     obtain ⟨rfl, rfl⟩ := H
     have zrc := zO.out
     have zsc := zP.out
     have zPb : wc.cell? ⟨zI, 0, none⟩ = some (.slice A0_0 l0_0.length c0_0) := (zb zG.out 0).trans rfl
     have zQb : wc.cell? ⟨zI, 1, none⟩ = some (.slice A0_1 l0_1.length c0_1) := (zb zG.out 1).trans rfl
     have zRb := zd zG.out 0
     have zSb := zd zG.out 1
     try go_wp2_with (first | ((with_reducible refine zo (f := 45) rfl ?_); refine zC (some 34) rfl rfl Try.func45 (by kernel_rfl) rfl #[.agg #[.slice A0_0 l0_0.length c0_0, .slice A0_1 l0_1.length c0_1]] rfl (by (try simp only [List.map_toArray, List.map_cons, List.map_nil]); first | done | rfl) ?_; (with_reducible refine (spec_l1CopyDisk.calls kj3 _ _ l0_0 _ _ l0_1 t133 t136 _ ?side1 ?side2 ?side3 ?side4 A37.out).mono ?_); (case side1 => repeat (first | exact (Kd.C_below HR0_0.out HB.out) | (with_reducible refine Kd.C_alloc ?_ _) | (with_reducible refine Kd.C_drewN ?_ _) | (with_reducible refine Kd.C_drew ?_))); (case side2 => exact HC0_0.out); (case side3 => repeat (first | exact (Kd.C_below HR0_1.out HB.out) | (with_reducible refine Kd.C_alloc ?_ _) | (with_reducible refine Kd.C_drewN ?_ _) | (with_reducible refine Kd.C_drew ?_))); (case side4 => exact HC0_1.out); rintro e w42 ⟨v134, v137, rfl, zY, zKb, hb⟩; refine ⟨_, rfl, ?_⟩; have n0_ := Aside0.mk (Kd.R_lower zY (zm (by exact bl HB.out))); have n1_ := Aside0.mk (Kd.S_lower zKb (zm (by exact bl HB.out))); have n2_ := Aside0.mk (zl (g := zI) (o := .cells #[.slice A0_0 l0_0.length c0_0, .slice A0_1 l0_1.length c0_1] 35 (0, 0)) (BL zG.out) hb); have n3_ := Aside0.mk (zl (g := zL) (o := .cells #[.slice none 0 0, .slice none 0 0] 35 (0, 0)) (BL zH.out) hb); have n4_ := Aside0.mk (zk (by exact bl HB.out) hb); clear zG; clear zH; clear HB; have zN := n0_; have zM := n1_; have zG := n2_; have zH := n3_; have HB := n4_; clear n0_ n1_ n2_ n3_ n4_; (try clear hb); (try clear hb2); (try clear hk); (try clear hi); (try clear zY); (try clear zKb)) | ((with_reducible refine zt (N := 7) rfl ?_); (try (refine gate_guard (by rfl) ?_; dsimp only)); refine zF ?hg (N := 7) ?hd (cs := #[.slice none 0 0, .slice none 0 0]) (t := 35) ?hr ?_; (case hd => rfl); (case hg => rfl); (case hr => first | (go_simp; done) | (go_simp; rfl)); intro zJ hg w43 hbox hb; have n0_ := Aside0.mk (Kd.R_below (RL zN.out) hb); have n1_ := Aside0.mk (Kd.S_below (SL zM.out) hb); have n2_ := Aside0.mk (zl (g := zI) (o := .cells #[.slice A0_0 l0_0.length c0_0, .slice A0_1 l0_1.length c0_1] 35 (0, 0)) (BL zG.out) hb); have n3_ := Aside0.mk (zl (g := zL) (o := .cells #[.slice none 0 0, .slice none 0 0] 35 (0, 0)) (BL zH.out) hb); have n4_ := Aside0.mk (zk (by exact bl HB.out) hb); have n5_ := Aside0.mk (hbox); have n6_ := Aside0.mk ((by rw [hg]; exact (zm (by exact bl HB.out)) : w.heap.size ≤ zJ)); have n7_ := Aside0.mk ((by rw [hg]; exact (zm (by exact bl HB.out)) : w.heap.size ≤ zJ)); have n8_ := Aside0.mk ((by rw [hg]; exact Nat.ne_of_lt (zr (g := zI) (o := .cells #[.slice A0_0 l0_0.length c0_0, .slice A0_1 l0_1.length c0_1] 35 (0, 0)) (BL zG.out)) : zI ≠ zJ)); have n9_ := Aside0.mk ((by rw [hg]; exact Nat.ne_of_gt (zr (g := zI) (o := .cells #[.slice A0_0 l0_0.length c0_0, .slice A0_1 l0_1.length c0_1] 35 (0, 0)) (BL zG.out)) : zJ ≠ zI)); have n10_ := Aside0.mk ((by rw [hg]; exact Nat.ne_of_lt (zr (g := zL) (o := .cells #[.slice none 0 0, .slice none 0 0] 35 (0, 0)) (BL zH.out)) : zL ≠ zJ)); have n11_ := Aside0.mk ((by rw [hg]; exact Nat.ne_of_gt (zr (g := zL) (o := .cells #[.slice none 0 0, .slice none 0 0] 35 (0, 0)) (BL zH.out)) : zJ ≠ zL)); clear zN; clear zM; clear zG; clear zH; clear HB; have zN := n0_; have zM := n1_; have zG := n2_; have zH := n3_; have HB := n4_; have zK := n5_; have GW139 := n6_; have zU := n7_; have zT := n8_; have zV := n9_; have zS := n10_; have zW := n11_; clear n0_ n1_ n2_ n3_ n4_ n5_ n6_ n7_ n8_ n9_ n10_ n11_; clear hb hbox hg; obtain ⟨Ao44, co44, eo44⟩ := Kd.R_slice zN.out; subst eo44; have ztc := zV.out; have zuc := zT.out; have zvc := zW.out; have zwc := zS.out; have zTb : w43.cell? ⟨zJ, 0, none⟩ = some (.slice none 0 0) := (zb zK.out 0).trans rfl; have zUb : w43.cell? ⟨zJ, 1, none⟩ = some (.slice none 0 0) := (zb zK.out 1).trans rfl; have zVb := zd zK.out 0; have zWb := zd zK.out 1; obtain ⟨Ao48, co48, eo48⟩ := Kd.S_slice zM.out; subst eo48))
     have n0_ : Aside0 (Kd.R (Kd.int .u8) 5 ((w43.setCell ⟨zJ, 0, none⟩ (.slice Ao44 t133.length co44)).setCell ⟨zJ, 1, none⟩ (.slice Ao48 t136.length co48)) w.heap.size (fun _ => True) (.slice Ao44 t133.length co44) t133) := ⟨RL (Kd.R_mono (Kd.R_far (p := ⟨zJ, 1, none⟩) (Kd.R_far (p := ⟨zJ, 0, none⟩) (Kd.R_types zN.out zK.out (by decide)) (fun _ hk => hk.2) (.slice Ao44 t133.length co44)) (fun _ hk => hk.2) (.slice Ao48 t136.length co48)) (fun _ hk => trivial))⟩
     have n1_ : Aside0 (Kd.S k45 45 ((w43.setCell ⟨zJ, 0, none⟩ (.slice Ao44 t133.length co44)).setCell ⟨zJ, 1, none⟩ (.slice Ao48 t136.length co48)) w.heap.size (fun k_ => some k_ ≠ (.slice Ao44 t133.length co44 : Value).ownBlock) (.slice Ao48 t136.length co48) t136) := ⟨SL (Kd.S_mono (Kd.S_far (p := ⟨zJ, 1, none⟩) (Kd.S_far (p := ⟨zJ, 0, none⟩) (Kd.S_types zM.out zK.out (by decide)) (fun _ hk => hk.2) (.slice Ao44 t133.length co44)) (fun _ hk => hk.2) (.slice Ao48 t136.length co48)) (fun _ hk => hk.1))⟩
     have n2_ : Aside0 (((w43.setCell ⟨zJ, 0, none⟩ (.slice Ao44 t133.length co44)).setCell ⟨zJ, 1, none⟩ (.slice Ao48 t136.length co48)).heap[zI]? = some (.cells #[.slice A0_0 l0_0.length c0_0, .slice A0_1 l0_1.length c0_1] 35 (0, 0))) := ⟨by (with_reducible repeat (first | refine zj ?_ _ | refine zg ?_ | refine zh ?_ _)); refine zE ?_ zT.out _; (with_reducible repeat (first | refine zj ?_ _ | refine zg ?_ | refine zh ?_ _)); refine zE ?_ zT.out _; (with_reducible repeat (first | refine zj ?_ _ | refine zg ?_ | refine zh ?_ _)); exact zG.out⟩
     have n3_ : Aside0 (((w43.setCell ⟨zJ, 0, none⟩ (.slice Ao44 t133.length co44)).setCell ⟨zJ, 1, none⟩ (.slice Ao48 t136.length co48)).heap[zL]? = some (.cells #[.slice none 0 0, .slice none 0 0] 35 (0, 0))) := ⟨by (with_reducible repeat (first | refine zj ?_ _ | refine zg ?_ | refine zh ?_ _)); refine zE ?_ zS.out _; (with_reducible repeat (first | refine zj ?_ _ | refine zg ?_ | refine zh ?_ _)); refine zE ?_ zS.out _; (with_reducible repeat (first | refine zj ?_ _ | refine zg ?_ | refine zh ?_ _)); exact zH.out⟩
     have n4_ : Aside0 (((w43.setCell ⟨zJ, 0, none⟩ (.slice Ao44 t133.length co44)).setCell ⟨zJ, 1, none⟩ (.slice Ao48 t136.length co48)).heap[zJ]? = some (.cells #[.slice Ao44 t133.length co44, .slice Ao48 t136.length co48] 35 (0, 0))) := ⟨by (with_reducible repeat (first | refine zj ?_ _ | refine zg ?_ | refine zh ?_ _)); refine zz (cs := #[.slice Ao44 t133.length co44, .slice none 0 0]) ?_ 1 _ rfl; (with_reducible repeat (first | refine zj ?_ _ | refine zg ?_ | refine zh ?_ _)); refine zz (cs := #[.slice none 0 0, .slice none 0 0]) ?_ 0 _ rfl; (with_reducible repeat (first | refine zj ?_ _ | refine zg ?_ | refine zh ?_ _)); exact zK.out⟩
     have n5_ : Aside0 (Below w.heap.size w ((w43.setCell ⟨zJ, 0, none⟩ (.slice Ao44 t133.length co44)).setCell ⟨zJ, 1, none⟩ (.slice Ao48 t136.length co48))) := ⟨by repeat (first | (with_reducible first | exact HB.out | apply zf | apply ze | apply zi | refine zc ?_ zQ.out | refine zc ?_ zR.out | refine zc ?_ zU.out) | exact HB.out)⟩
     (try clear zN)
     (try clear zM)
     (try clear zG)
     (try clear zH)
     (try clear zK)
     (try clear HB)
     generalize ((w43.setCell ⟨zJ, 0, none⟩ (.slice Ao44 t133.length co44)).setCell ⟨zJ, 1, none⟩ (.slice Ao48 t136.length co48)) = w49 at n0_ n1_ n2_ n3_ n4_ n5_ ⊢
     have zN := n0_
     have zM := n1_
     have zG := n2_
     have zH := n3_
     have zK := n4_
     have HB := n5_
     clear n0_ n1_ n2_ n3_ n4_ n5_
     have n0_ := Aside0.mk (Kd.R_drew zN.out)
     have n1_ := Aside0.mk (Kd.S_drew zM.out)
     have n2_ := Aside0.mk (zg zG.out)
     have n3_ := Aside0.mk (zg zH.out)
     have n4_ := Aside0.mk (zg zK.out)
     have n5_ := Aside0.mk (zi HB.out)
     clear zN
     clear zM
     clear zG
     clear zH
     clear zK
     clear HB
     have zN := n0_
     have zM := n1_
     have zG := n2_
     have zH := n3_
     have zK := n4_
     have HB := n5_
     clear n0_ n1_ n2_ n3_ n4_ n5_
     refine start_ (n := 10) (S := fun w' => w'.cell? ⟨zJ, 0, none⟩ = some (.slice Ao44 t133.length co44) ∧ w'.cell? ⟨zJ, 1, none⟩ = some (.slice Ao48 t136.length co48)) (ds := [9]) #[false, false, false, false, false, false, false, false, false, false] (by kernel_rfl) rfl rfl ⟨(zb zK.out 0).trans rfl, (zb zK.out 1).trans rfl⟩ (fun hHeld => ?_); refine with_tabW spec_DiskWrite.tab4 spec_DiskWrite.bits4 (fun HT_ HW_ => ?_)
     generalize w49.drew = w50 at zN zM zG zH zK HB hHeld ⊢
     refine zA (i := 0) (N := some 35) (v := ?_) (a' := ?_) #[true, false, false, false, false, false, false, false, false, false] rfl rfl (zB HT_.out (by kernel_rfl)) (fun _ _ _ h => h) (Or.inl ⟨by rfl, ?_⟩) ?_ ?_
     rotate_left
     ·intro w'
      go_simp
      with_reducible rfl
     rotate_left
     ·simp only [Act.put, List.setIfInBounds_toArray, List.set_cons_zero, List.set_cons_succ, zp, zq]
      rfl
     refine zA (i := 2) (N := some 37) (v := ?_) (a' := ?_) #[true, false, true, false, false, false, false, false, false, false] rfl rfl (zB HT_.out (by kernel_rfl)) (fun _ _ _ h => h) (Or.inl ⟨by rfl, ?_⟩) ?_ ?_
     rotate_left
     ·intro w'
      go_simp
      with_reducible rfl
     rotate_left
     ·simp only [Act.put, List.setIfInBounds_toArray, List.set_cons_zero, List.set_cons_succ, zp, zq]
      rfl
     refine zA (i := 3) (N := some 38) (v := ?_) (a' := ?_) #[true, false, true, true, false, false, false, false, false, false] rfl rfl (zB HT_.out (by kernel_rfl)) (fun _ _ _ h => h) (Or.inl ⟨by rfl, ?_⟩) ?_ ?_
     rotate_left
     ·intro w'
      go_simp
      with_reducible rfl
     rotate_left
     ·simp only [Act.put, List.setIfInBounds_toArray, List.set_cons_zero, List.set_cons_succ, zp, zq]
      rfl
     refine take_ (i := 1) (N := some 36) (v := ?_) (a' := ?_) #[true, true, true, true, false, false, false, false, false, false] rfl rfl (take_ofW HT_.out HW_.out (by kernel_rfl)) (fun _ _ _ h => h) (Or.inl ⟨by rfl, ?_⟩) hHeld ?_ ?_
     rotate_left
     ·rintro w' ⟨s0, s1⟩
      go_simp
      with_reducible rfl
     rotate_left
     ·simp only [Act.put, List.setIfInBounds_toArray, List.set_cons_zero, List.set_cons_succ, zp, zq]
      rfl
     refine one_ (i := 4) (N := some 39) #[true, true, true, true, true, false, false, false, false, false] rfl rfl (one_of HT_.out (by kernel_rfl)) (by decide) (fun K hK => ?_)
     refine goes_ Try.func46 (by kernel_rfl) rfl #[.slice A2 l2.length c2] (by rfl) rfl rfl (by (try simp only [List.map_toArray, List.map_cons, List.map_nil]); first | done | rfl) ?_
     with_reducible refine (spec_l1Copy.calls kj3 _ _ l2 t140 _ ?side1 ?side2 A38.out).mono ?_
     (case side1 => repeat (first | exact (Kd.C_below HR2.out HB.out) | (with_reducible refine Kd.C_alloc ?_ _) | (with_reducible refine Kd.C_drewN ?_ _) | (with_reducible refine Kd.C_drew ?_)))
     (case side2 => exact HC2.out)
     rintro e w51 ⟨v141, rfl, zY, hb⟩
     refine ⟨_, rfl, ?_⟩
     have n0_ := Aside0.mk (Kd.R_elder' (RL zN.out) (Kd.R_base zY) hb)
     have n1_ := Aside0.mk (Kd.S_elder' (SL zM.out) (Kd.R_base zY) hb)
     have n2_ := Aside0.mk (Kd.R_lower (Kd.R_new' zY (Kd.R_lt (RL zN.out))) (zm (by repeat (first | (with_reducible first | exact HB.out | apply zf | apply ze | apply zi | refine zc ?_ zQ.out | refine zc ?_ zR.out | refine zc ?_ zU.out) | exact HB.out))))
     have n3_ := Aside0.mk (zl (g := zI) (o := .cells #[.slice A0_0 l0_0.length c0_0, .slice A0_1 l0_1.length c0_1] 35 (0, 0)) (BL zG.out) hb)
     have n4_ := Aside0.mk (zl (g := zL) (o := .cells #[.slice none 0 0, .slice none 0 0] 35 (0, 0)) (BL zH.out) hb)
     have n5_ := Aside0.mk (zl (g := zJ) (o := .cells #[.slice Ao44 t133.length co44, .slice Ao48 t136.length co48] 35 (0, 0)) (BL zK.out) hb)
     have n6_ := Aside0.mk (zk (by repeat (first | (with_reducible first | exact HB.out | apply zf | apply ze | apply zi | refine zc ?_ zQ.out | refine zc ?_ zR.out | refine zc ?_ zU.out) | exact HB.out)) hb)
     clear zN
     clear zM
     clear zG
     clear zH
     clear zK
     clear HB
     have zN := n0_
     have zM := n1_
     have zX := n2_
     have zG := n3_
     have zH := n4_
     have zK := n5_
     have HB := n6_
     clear n0_ n1_ n2_ n3_ n4_ n5_ n6_
     (try clear hb)
     (try clear hb2)
     (try clear hk)
     (try clear hi)
     (try clear zY)
     obtain ⟨Ao52, co52, eo52⟩ := Kd.R_slice zX.out
     (first | subst eo52 | (injection eo52 with f1_ f2_ f3_; have f4_ := f1_.symm; have f5_ := f3_.symm; clear f1_ f2_ f3_; subst f4_; subst f5_))
     refine hK.out _ _ ⟨(zb zK.out 0).trans rfl, (zb zK.out 1).trans rfl⟩ (fun hHeld => ?_)
     clear hK K
     refine norm_ (a' := ?_) ?_ ?_
     rotate_left
     ·show Act.put _ (some 39) _ = _
      simp only [Act.put, List.setIfInBounds_toArray, List.set_cons_zero, List.set_cons_succ, zp, zq]
      rfl
     refine zA (i := 5) (N := some 40) (v := ?_) (a' := ?_) #[true, true, true, true, true, true, false, false, false, false] rfl rfl (zB HT_.out (by kernel_rfl)) (fun _ _ _ h => h) (Or.inl ⟨by rfl, ?_⟩) ?_ ?_
     rotate_left
     ·intro w'
      go_simp
      with_reducible rfl
     rotate_left
     ·simp only [Act.put, List.setIfInBounds_toArray, List.set_cons_zero, List.set_cons_succ, zp, zq]
      rfl
     refine one_ (i := 6) (N := some 41) #[true, true, true, true, true, true, true, false, false, false] rfl rfl (one_of HT_.out (by kernel_rfl)) (by decide) (fun K hK => ?_)
     refine value_ (w1 := ?_) (v := ?_) (by rfl) rfl ?_ ?_
     rotate_left 2
     ·go_simp
      constructor
      ·rfl
      ·rfl
     refine hK.out _ _ ⟨(zb (zh zK.out _) 0).trans rfl, (zb (zh zK.out _) 1).trans rfl⟩ (fun hHeld => ?_)
     clear hK K
     refine norm_ (a' := ?_) ?_ ?_
     rotate_left
     ·show Act.put _ (some 41) _ = _
      simp only [Act.put, List.setIfInBounds_toArray, List.set_cons_zero, List.set_cons_succ, zp, zq]
      rfl
     refine one_ (i := 7) (N := some 42) #[true, true, true, true, true, true, true, true, false, false] rfl rfl (one_of HT_.out (by kernel_rfl)) (by decide) (fun K hK => ?_)
     refine Kd.S_append_step k45 (w0 := w) w.heap.size (by rfl) (.tmp 36) (.tmp 41) 33 45 (.agg #[(.int .i64 0), (.slice none 0 0)]) 32 rfl Try.underlying33 info45 rfl (by decide) (by omega) (.slice Ao48 t136.length co48) t136 (⟨a1, t140⟩ : S45) [.int .i64 a1, .slice Ao52 t140.length co52] (fun k_ => some k_ ≠ (.slice Ao44 t133.length co44 : Value).ownBlock) (fun k_ => some k_ = (.slice Ao52 t140.length co52 : Value).ownBlock) rfl rfl ?aP (fun k_ hk_ => ((Kd.R_mono (ok' := fun k_ => ((fun k_ => some k_ ≠ (.slice Ao44 t133.length co44 : Value).ownBlock)) k_ ∧ some k_ ≠ (.slice Ao48 t136.length co48 : Value).ownBlock) (Kd.R_apart' (zX.out) (Kd.S_typed zM.out) (by decide)) (fun k_ hk => ⟨hk.1.2, hk.2⟩))).1 k_ hk_.symm) ?aF ?aO ?aB ?aS ?aL ?_
     (case aP => exact k45_mkM _ _ _ (⟨a1, t140⟩ : S45) (Kd.R_mono (Kd.R_tight rfl (Kd.R_mono (ok' := fun k_ => ((fun k_ => some k_ ≠ (.slice Ao44 t133.length co44 : Value).ownBlock)) k_ ∧ some k_ ≠ (.slice Ao48 t136.length co48 : Value).ownBlock) (Kd.R_apart' (zX.out) (Kd.S_typed zM.out) (by decide)) (fun k_ hk => ⟨hk.1.2, hk.2⟩))) (fun _ h_ => h_)))
     (case aB => exact (by repeat (first | (with_reducible first | exact HB.out | apply zf | apply ze | apply zi | refine zc ?_ zQ.out | refine zc ?_ zR.out | refine zc ?_ zU.out) | exact HB.out)))
     (case aF => exact (fun k_ hk => Kd.fresh' (Kd.R_lt (RL zN.out)) k_ hk))
     (case aO => exact (SL (Kd.S_mono zM.out (fun k_ hk => ⟨hk.1, fun e_ => hk.2 e_⟩))))
     (case aS => exact (zm (by repeat (first | (with_reducible first | exact HB.out | apply zf | apply ze | apply zi | refine zc ?_ zQ.out | refine zc ?_ zR.out | refine zc ?_ zU.out) | exact HB.out))))
     (case aL => have := LMc39.out; omega)
     intro v144 w53 ho hb hg hat
     rw [← Ny143.out] at ho
     have n0_ := Aside0.mk (zD (g := zI) (o := .cells #[.slice A0_0 l0_0.length c0_0, .slice A0_1 l0_1.length c0_1] 35 (0, 0)) (BL zG.out) hg (Kd.S_ne zM.out zG.out (by decide)))
     have n1_ := Aside0.mk (zD (g := zL) (o := .cells #[.slice none 0 0, .slice none 0 0] 35 (0, 0)) (BL zH.out) hg (Kd.S_ne zM.out zH.out (by decide)))
     have n2_ := Aside0.mk (Kd.R_over' (RL zN.out) (Kd.S_typed (SL zM.out)) (by decide) hg)
     have n3_ := Aside0.mk (zD (g := zJ) (o := .cells #[.slice Ao44 t133.length co44, .slice Ao48 t136.length co48] 35 (0, 0)) (BL zK.out) hg (Kd.S_ne zM.out zK.out (by decide)))
     have n4_ := Aside0.mk (hb)
     have n5_ := Aside0.mk (ho)
     clear zG
     clear zH
     clear zN
     clear zK
     clear HB
     clear zM
     clear zX
     have zG := n0_
     have zH := n1_
     have zN := n2_
     have zK := n3_
     have HB := n4_
     have zZ := n5_
     clear n0_ n1_ n2_ n3_ n4_ n5_
     clear ho hb hg hat
     obtain ⟨Ao54, co54, eo54⟩ := Kd.S_slice zZ.out
     (first | subst eo54 | (injection eo54 with f1_ f2_ f3_; have f4_ := f1_.symm; have f5_ := f3_.symm; clear f1_ f2_ f3_; subst f4_; subst f5_))
     refine hK.out _ _ ⟨(zb zK.out 0).trans rfl, (zb zK.out 1).trans rfl⟩ (fun hHeld => ?_)
     clear hK K
     refine norm_ (a' := ?_) ?_ ?_
     rotate_left
     ·show Act.put _ (some 42) _ = _
      simp only [Act.put, List.setIfInBounds_toArray, List.set_cons_zero, List.set_cons_succ, zp, zq]
      rfl
     refine zA (i := 8) (N := some 43) (v := ?_) (a' := ?_) #[true, true, true, true, true, true, true, true, true, false] rfl rfl (zB HT_.out (by kernel_rfl)) (fun _ _ _ h => h) (Or.inl ⟨by rfl, ?_⟩) ?_ ?_
     rotate_left
     ·intro w'
      go_simp
      with_reducible rfl
     rotate_left
     ·simp only [Act.put, List.setIfInBounds_toArray, List.set_cons_zero, List.set_cons_succ, zp, zq]
      rfl
     refine last_ (i := 9) (N := none) #[true, true, true, true, true, true, true, true, true, true] rfl rfl (one_of HT_.out (by kernel_rfl)) (by decide) (fun K hK => ?_)
     have hs55 : w53.cell? ⟨zJ, 1, none⟩ = some (.slice Ao48 t136.length co48) := (zb zK.out 1).trans rfl
     have hfs55 := zd zK.out 1
     have hns55_0 := zT.out
     have hns55_1 := zS.out
     have hms55_0 := zV.out
     have hms55_1 := zW.out
     refine skip_ (w1 := ?_) (by rfl) rfl ?_ ?_
     rotate_left
     ·go_simp
      rfl
     refine hK.out _ _ ?_
     clear hK K
     refine done_ (done_of HT_.out (by kernel_rfl)) ?_
     have zXb : w53.cell? ⟨zJ, 0, none⟩ = some (.slice Ao44 t133.length co44) := (zb zK.out 0).trans rfl
     have zYb : w53.cell? ⟨zJ, 1, none⟩ = some (.slice Ao48 t136.length co48) := (zb zK.out 1).trans rfl
     have zZb := zd zK.out 0
     have zac := zd zK.out 1
     have zbc : w53.cell? ⟨zL, 0, none⟩ = some (.slice none 0 0) := (zb zH.out 0).trans rfl
     have zcc : w53.cell? ⟨zL, 1, none⟩ = some (.slice none 0 0) := (zb zH.out 1).trans rfl
     have zdc := zd zH.out 0
     have zec := zd zH.out 1
     try go_wp2
     refine bodyPost_ret (results_cell_row rfl _ _ zL 35 #[.slice Ao44 t133.length co44, .slice Ao54 y143.length co54] (0, 0) _ rfl (by (with_reducible repeat (first | refine zj ?_ _ | refine zg ?_ | refine zh ?_ _)); refine zz (cs := #[.slice Ao44 t133.length co44, .slice none 0 0]) ?_ 1 _ rfl; (with_reducible repeat (first | refine zj ?_ _ | refine zg ?_ | refine zh ?_ _)); refine zz (cs := #[.slice none 0 0, .slice none 0 0]) ?_ 0 _ rfl; (with_reducible repeat (first | refine zj ?_ _ | refine zg ?_ | refine zh ?_ _)); refine zE ?_ zS.out _; (with_reducible repeat (first | refine zj ?_ _ | refine zg ?_ | refine zh ?_ _)); exact zH.out) Try.underlying35 rfl (by kernel_rfl)) rfl ?_
     exact ⟨_, _, by first | rfl | (simp [errW_none, errW_some] <;> rfl) | (simp [*, errW_none, errW_some] <;> rfl), RL (Kd.R_mono (Kd.R_far (p := ⟨zL, 1, none⟩) (Kd.R_far (p := ⟨zL, 0, none⟩) (Kd.R_far (p := ⟨zJ, 1, none⟩) (Kd.R_types (Kd.R_types zN.out zK.out (by decide)) zH.out (by decide)) (fun _ hk => hk.1.2) (.slice Ao54 y143.length co54)) (fun _ hk => hk.2) (.slice Ao44 t133.length co44)) (fun _ hk => hk.2) (.slice Ao54 y143.length co54)) (fun _ hk => trivial)), SL (Kd.S_mono (Kd.S_far (p := ⟨zL, 1, none⟩) (Kd.S_far (p := ⟨zL, 0, none⟩) (Kd.S_far (p := ⟨zJ, 1, none⟩) (Kd.S_types (Kd.S_types zZ.out zK.out (by decide)) zH.out (by decide)) (fun _ hk => hk.1.2) (.slice Ao54 y143.length co54)) (fun _ hk => hk.2) (.slice Ao44 t133.length co44)) (fun _ hk => hk.2) (.slice Ao54 y143.length co54)) (fun _ hk => hk.1.1)), by repeat (first | (with_reducible first | exact HB.out | apply zf | apply ze | apply zi | refine zc ?_ zQ.out | refine zc ?_ zR.out | refine zc ?_ zU.out) | exact HB.out)⟩
    ·rw [if_neg c39] at H
     exact absurd H (by simp)

def spec_l1Fill.l0 : Nat → Int → List Int → Int → List Int → Int → Int → Int → Option (List Int × Int × Int × Int)
 | 0, _, _, _, _, _, _, _ => none
 | k + 1, x3, x4, x5, x1000, x1001, x1002, x1003 => if x5 < 64 then (if x4.length < 140737488355328 then (spec_l1Fill.l0 k x3 (x4 ++ [x3]) (wrap64 (x5 + 1)) x1000 x1001 x1002 x1003) else (none)) else ((spec_l1Next.f x1000 x1001 x1002 x1003 64).bind fun bt156 => ((spec_l1Next.f x1000 bt156.2.1 bt156.2.2.1 bt156.2.2.2 256).bind fun bt160 => (if 0 ≤ bt156.1 then (if bt156.1 < (x4.length : Int) then (some ((x4.set (bt156.1 : Int).toNat ((bt160.1) % 256)), bt160.2.1, bt160.2.2.1, bt160.2.2.2)) else (none)) else (none))))
def spec_l1Fill.f (k : Nat) (s0_0 : List Int) (s0_1 : Int) (s0_2 : Int) (s0_3 : Int) : Option (List Int × Int × Int × Int) := (spec_l1Next.f s0_0 s0_1 s0_2 s0_3 255).bind fun bt146 => (spec_l1Fill.l0 k ((wrap64 (1 + bt146.1)) % 256) (([] : List Int)) 0 s0_0 bt146.2.1 bt146.2.2.1 bt146.2.2.2)
theorem spec_l1Fill.mono_l : ∀ k, (∀ y0 y1 y2 y3 y4 y5 y6, LeO (spec_l1Fill.l0 k y0 y1 y2 y3 y4 y5 y6) (spec_l1Fill.l0 (k + 1) y0 y1 y2 y3 y4 y5 y6))
 | 0 => fun _ _ _ _ _ _ _ r h => by simp [spec_l1Fill.l0] at h
 | k + 1 => by
  have ih0 := spec_l1Fill.mono_l k
  ·intro y0 y1 y2 y3 y4 y5 y6
   unfold spec_l1Fill.l0
   repeat' first
   | (with_reducible exact ih0 _ _ _ _ _ _ _)
   | (with_reducible exact LeO.refl _)
   | (with_reducible exact LeO.none _)
   | (with_reducible refine LeO.ite ?_ ?_)
   | (with_reducible refine LeO.bind ?_ (fun _ => ?_))
   | exact ih0 _ _ _ _ _ _ _
   | exact LeO.none _
   | refine LeO.ite ?_ ?_
   | refine LeO.bind ?_ (fun _ => ?_)
theorem spec_l1Fill.mono : ∀ a0 a1 a2 a3 k, LeO (spec_l1Fill.f k a0 a1 a2 a3) (spec_l1Fill.f (k + 1) a0 a1 a2 a3) := by
 intro a0 a1 a2 a3 k
 have ih0 := spec_l1Fill.mono_l k
 unfold spec_l1Fill.f
 repeat' first
   | (with_reducible exact ih0 _ _ _ _ _ _ _)
   | (with_reducible exact LeO.refl _)
   | (with_reducible exact LeO.none _)
   | (with_reducible refine LeO.ite ?_ ?_)
   | (with_reducible refine LeO.bind ?_ (fun _ => ?_))
   | exact ih0 _ _ _ _ _ _ _
   | exact LeO.none _
   | refine LeO.ite ?_ ?_
   | refine LeO.bind ?_ (fun _ => ?_)
set_option maxHeartbeats 8000000 in
set_option maxRecDepth 100000 in
theorem spec_l1Fill.calls (k : Nat) (g : Nat) (s0_0 : List Int) (s0_1 : Int) (s0_2 : Int) (s0_3 : Int) (r1 : List Int) (r2 : Int) (r3 : Int) (r4 : Int) (w0 w : World) (hI : IsS93 w0 w g s0_0 s0_1 s0_2 s0_3) (hB : BelX g w0 w) (h : spec_l1Fill.f k s0_0 s0_1 s0_2 s0_3 = some (r1, r2, r3, r4)) :
  Calls Try.prog 38 #[.pointer (some ⟨g, 0, none⟩)] w fun e w' => ∃ v0_ : Value, e = .returned (v0_) ∧ Kd.R (Kd.int .u8) 5 w' w.heap.size (fun _ => True) v0_ r1 ∧ IsS93 w0 w' g s0_0 r2 r3 r4 ∧ BelX g w0 w' ∧ KeepBut w w' g none := by
 have HI0 := Aside0.mk hI
 have HK := Aside0.mk (KeepBut.refl w g none)
 have HL := Aside0.mk hB.size
 clear hI
 have HW0 := Aside0.mk hB.size
 have HB := Aside0.mk hB
 clear hB
 have H : ((spec_l1Next.f s0_0 s0_1 s0_2 s0_3 255).bind fun bt146 => (spec_l1Fill.l0 k ((wrap64 (1 + bt146.1)) % 256) (([] : List Int)) 0 s0_0 bt146.2.1 bt146.2.2.1 bt146.2.2.2)) = some (r1, r2, r3, r4) := h
 clear h
 replace H := Option.bind_eq_some_iff.mp H
 obtain ⟨⟨t146, t147, t148, t149⟩, A20, H⟩ := H
 replace H : (spec_l1Fill.l0 k ((wrap64 (1 + t146)) % 256) (([] : List Int)) 0 s0_0 t147 t148 t149) = some (r1, r2, r3, r4) := H
 have A2 := Aside0.mk A20
 clear A20
 obtain ⟨y150, hy150⟩ : ∃ y_ : List Int, y_ = (([] : List Int)) := ⟨_, rfl⟩
 replace H : (spec_l1Fill.l0 k ((wrap64 (1 + t146)) % 256) y150 0 s0_0 t147 t148 t149) = some (r1, r2, r3, r4) := by first | (rw [hy150]; with_reducible exact H) | (have H2_ := (Option.bind_some _ _).symm.trans H; rw [hy150]; with_reducible exact H2_) | (have H2_ := (Option.bind_some _ _).symm.trans H; with_reducible exact H2_) | with_reducible exact H | (rw [hy150]; exact H) | exact H
 have Ny150 := Aside0.mk hy150
 clear hy150
 have H' := Aside0.mk H
 clear H
 go_enter Try.func38, Try.ntmps38
 go_wp2_with (first | ((with_reducible refine zo (f := 36) rfl ?_); refine zC (some 7) rfl rfl Try.func36 (by kernel_rfl) rfl #[.pointer (some ⟨g, 0, none⟩), .int .i64 255] rfl (by (try simp only [List.map_toArray, List.map_cons, List.map_nil]); first | done | rfl) ?_; (with_reducible refine (spec_l1Next.calls g s0_0 s0_1 s0_2 s0_3 255 t146 t147 t148 t149 w0 _ ?side1 ?side2 A2.out).mono ?_); (case side1 => exact IsS93.l HI0.out); (case side2 => exact bx HB.out); rintro e w3 ⟨rfl, hi, hb, hk⟩; refine ⟨_, rfl, ?_⟩; have n0_ := Aside0.mk (KeepBut.trans (by exact kx HK.out) hk (.inl rfl)); have n1_ := Aside0.mk (hb); have n2_ := Aside0.mk (hi); clear HK; clear HB; clear HI0; have HK := n0_; have HB := n1_; have HI0 := n2_; clear n0_ n1_ n2_; (try clear hb); (try clear hb2); (try clear hk); (try clear hi)) | ((with_reducible refine zt (N := 10) rfl ?_); refine Kd.R_lit (Kd.int .u8) _ 5 ?hg (N := 10) ?hd (xs := ([] : List Int)) (inner := []) (ok := fun _ => True) (okp := fun _ => True) ?hr ?hp (fun _ hk => hk) trivial (Below.refl _ _) (Nat.le_refl _) (by simp) ?_; (case hd => rfl); (case hg => rfl); (case hr => first | (go_simp; done) | (go_simp; rfl)); (case hp => exact (Reps.none _ _)); intro v151 w4 zH hb hg_ hnew_; clear hg_ hnew_; (first | rw [← Ny150.out] at zH | (simp only [Int.reduceToNat] at zH; rw [← Ny150.out] at zH)); have n0_ := Aside0.mk (Kd.R_lower zH (keep_size (w := w) (g := g) (row := none) (by exact kx HK.out))); have n1_ := Aside0.mk (IsS93.below (by exact IsS93.l HI0.out) hb); have n2_ := Aside0.mk (KeepBut.trans (by exact kx HK.out) (KeepBut.of_below hb g none) (.inl rfl)); have n3_ := Aside0.mk (belx_step (g := g) (w0 := w0) (by exact bx HB.out) hb); clear HI0; clear HK; clear HB; have zJ := n0_; have HI0 := n1_; have HK := n2_; have HB := n3_; clear n0_ n1_ n2_ n3_; clear hb zH))
 go_loopg [4, 5] k (fun kq v4 v5 w' => ∃ (x4_1 : List Int) (x5_1 : Int), v5 = .int .i64 x5_1 ∧ Aside0 (spec_l1Fill.l0 kq ((wrap64 (1 + t146)) % 256) x4_1 x5_1 s0_0 t147 t148 t149 = some (r1, r2, r3, r4)) ∧ Aside0 (kq ≤ k) ∧ Aside0 (Kd.R (Kd.int .u8) 5 w' w.heap.size (fun _ => True) v4 x4_1) ∧ Aside0 (IsS93 w0 w' g s0_0 t147 t148 t149) ∧ Aside0 (KeepBut w w' g none) ∧ Aside0 (BelX g w0 w'))
 case atStart => exact ⟨(y150), (0), (by first | rfl | (simp; done) | (simp [*]; done)), H', ⟨Nat.le_refl _⟩, ⟨RL zJ.out⟩, ⟨by repeat (first | (with_reducible first | exact HI0.out | apply IsS93.alloc | apply IsS93.drewN | apply IsS93.drew | apply IsS93.set_1 | apply IsS93.set_2 | apply IsS93.set_3) | exact HI0.out)⟩, ⟨by repeat (first | (with_reducible first | exact HK.out | apply KeepBut.set_ | apply zx | apply zy | apply zw) | exact HK.out)⟩, ⟨by repeat (first | (with_reducible first | exact HB.out | apply belx_alloc | apply belx_drewN | apply belx_drew | apply belx_setg) | exact HB.out)⟩⟩
 case round =>
  clear H'
  try clear p2
  try clear c3
  obtain ⟨x4_1, x5_1, rfl, HA, HK1, zG, HI0, HK, HB⟩ := hrel
  cases gk with
  | zero => exact absurd HA.out (by simp [spec_l1Fill.l0])
  | succ k1 =>
   have H := HA.out
   clear HA
   simp only [spec_l1Fill.l0] at H
   by_cases c6 : x5_1 < 64
   ·rw [if_pos c6] at H
    have c6b0 : decide (x5_1 < 64) = true := decide_eq_true c6
    clear c6
    by_cases c7 : x4_1.length < 140737488355328
    ·rw [if_pos c7] at H
     have LMc7 := Aside0.mk c7
     clear c7
     obtain ⟨y153, hy153⟩ : ∃ y_ : List Int, y_ = (x4_1 ++ [((wrap64 (1 + t146)) % 256)]) := ⟨_, rfl⟩
     replace H : (spec_l1Fill.l0 k1 ((wrap64 (1 + t146)) % 256) y153 (wrap64 (x5_1 + 1)) s0_0 t147 t148 t149) = some (r1, r2, r3, r4) := by first | (rw [hy153]; with_reducible exact H) | (have H2_ := (Option.bind_some _ _).symm.trans H; rw [hy153]; with_reducible exact H2_) | (have H2_ := (Option.bind_some _ _).symm.trans H; with_reducible exact H2_) | with_reducible exact H | (rw [hy153]; exact H) | exact H
     have Ny153 := Aside0.mk hy153
     clear hy153
     have H' := Aside0.mk H
     clear H
     go_wp2_with (first | ((with_reducible refine gate_builtin (b := .append) (xs := #[.tmp 15, .tmp 17]) rfl ?_); at_builtin; refine Kd.R_append (Kd.int .u8) w.heap.size rfl (.tmp 15) (.tmp 17) 22 5 (.int .u8 0) 1 rfl Try.underlying22 info5 rfl (by decide) (by omega) u4 x4_1 ((wrap64 (1 + t146)) % 256) [.int .u8 ((wrap64 (1 + t146)) % 256)] (fun _ => True) (fun _ => False) rfl rfl ?aP (fun _ hk => hk.elim) ?aF ?aO (Below.refl _ _) ?aS ?aL ?_; (case aP => exact rfl); (case aF => exact (fun _ _ => trivial)); (case aO => exact (RL zG.out)); (case aS => exact (keep_size (w := w) (g := g) (row := none) (by exact kx HK.out))); (case aL => have := LMc7.out; omega); intro v154 w8 ho hb hg hat; rw [← Ny153.out] at ho; have n0_ := Aside0.mk (IsS93.grown (by exact IsS93.l HI0.out) hg (IsS93.own_ne HI0.out zG.out (by decide))); have n1_ := Aside0.mk (belx_weaken (g := g) (w0 := w0) (by exact bx HB.out) HL.out hb); have n2_ := Aside0.mk (KeepBut.trans (by exact kx HK.out) (KeepBut.of_grown hg g) (Kd.R_base2 zG.out)); have n3_ := Aside0.mk (ho); clear HI0; clear HB; clear HK; clear zG; have HI0 := n0_; have HB := n1_; have HK := n2_; have zK := n3_; clear n0_ n1_ n2_ n3_; clear ho hb hg hat))
     go_roundg k1
     case measure => have := HK1.out; omega
     case rel => exact ⟨(y153), (wrap64 (x5_1 + 1)), (by first | rfl | (simp; done) | (simp [*]; done)), H', ⟨by have := HK1.out; omega⟩, ⟨RL zK.out⟩, ⟨by repeat (first | (with_reducible first | exact HI0.out | apply IsS93.alloc | apply IsS93.drewN | apply IsS93.drew | apply IsS93.set_1 | apply IsS93.set_2 | apply IsS93.set_3) | exact HI0.out)⟩, ⟨by repeat (first | (with_reducible first | exact HK.out | apply KeepBut.set_ | apply zx | apply zy | apply zw) | exact HK.out)⟩, ⟨by repeat (first | (with_reducible first | exact HB.out | apply belx_alloc | apply belx_drewN | apply belx_drew | apply belx_setg) | exact HB.out)⟩⟩
    ·rw [if_neg c7] at H
     exact absurd H (by simp)
   ·rw [if_neg c6] at H
    have c6b0 : decide (x5_1 < 64) = false := decide_eq_false c6
    clear c6
    replace H := Option.bind_eq_some_iff.mp H
    obtain ⟨⟨t156, t157, t158, t159⟩, A90, H⟩ := H
    replace H : ((spec_l1Next.f s0_0 t157 t158 t159 256).bind fun bt160 => (if 0 ≤ t156 then (if t156 < (x4_1.length : Int) then (some ((x4_1.set (t156 : Int).toNat ((bt160.1) % 256)), bt160.2.1, bt160.2.2.1, bt160.2.2.2)) else (none)) else (none))) = some (r1, r2, r3, r4) := H
    have A9 := Aside0.mk A90
    clear A90
    replace H := Option.bind_eq_some_iff.mp H
    obtain ⟨⟨t160, t161, t162, t163⟩, A100, H⟩ := H
    replace H : (if 0 ≤ t156 then (if t156 < (x4_1.length : Int) then (some ((x4_1.set (t156 : Int).toNat ((t160) % 256)), t161, t162, t163)) else (none)) else (none)) = some (r1, r2, r3, r4) := H
    have A10 := Aside0.mk A100
    clear A100
    by_cases c11 : 0 ≤ t156
    ·rw [if_pos c11] at H
     have c11b0 : decide (0 ≤ t156) = true := decide_eq_true c11
     clear c11
     by_cases c12 : t156 < (x4_1.length : Int)
     ·rw [if_pos c12] at H
      have c12b0 : decide (t156 < (x4_1.length : Int)) = true := decide_eq_true c12
      clear c12
      obtain ⟨y164, hy164⟩ : ∃ y_ : List Int, y_ = (x4_1.set (t156 : Int).toNat ((t160) % 256)) := ⟨_, rfl⟩
      replace H : (some (y164, t161, t162, t163)) = some (r1, r2, r3, r4) := by first | (rw [hy164]; with_reducible exact H) | (have H2_ := (Option.bind_some _ _).symm.trans H; rw [hy164]; with_reducible exact H2_) | (have H2_ := (Option.bind_some _ _).symm.trans H; with_reducible exact H2_) | with_reducible exact H | (rw [hy164]; exact H) | exact H
      have Ny164 := Aside0.mk hy164
      clear hy164
      simp only [Option.some.injEq, Prod.mk.injEq] at H
      obtain ⟨rfl, rfl, rfl, rfl⟩ := H
      go_wp2_with (first | ((with_reducible refine zo (f := 36) rfl ?_); refine zC (some 21) rfl rfl Try.func36 (by kernel_rfl) rfl #[.pointer (some ⟨g, 0, none⟩), .int .i64 64] rfl (by (try simp only [List.map_toArray, List.map_cons, List.map_nil]); first | done | rfl) ?_; (with_reducible refine (spec_l1Next.calls g s0_0 t147 t148 t149 64 t156 t157 t158 t159 w0 _ ?side1 ?side2 A9.out).mono ?_); (case side1 => exact IsS93.l HI0.out); (case side2 => exact bx HB.out); rintro e w14 ⟨rfl, hi, hb, hk⟩; refine ⟨_, rfl, ?_⟩; have n0_ := Aside0.mk (Kd.R_mono (Kd.R_keep (IsS93.apart (show IsS93 w0 _ g s0_0 t147 t148 t149 from by exact IsS93.l HI0.out) (RL zG.out) (by decide)) hk (fun _ h => h.2)) (fun _ h => h.1)); have n1_ := Aside0.mk (KeepBut.trans (by exact kx HK.out) hk (.inl rfl)); have n2_ := Aside0.mk (hb); have n3_ := Aside0.mk (hi); clear zG; clear HK; clear HB; clear HI0; have zG := n0_; have HK := n1_; have HB := n2_; have HI0 := n3_; clear n0_ n1_ n2_ n3_; (try clear hb); (try clear hb2); (try clear hk); (try clear hi)) | ((with_reducible refine zo (f := 36) rfl ?_); refine zC (some 23) rfl rfl Try.func36 (by kernel_rfl) rfl #[.pointer (some ⟨g, 0, none⟩), .int .i64 256] rfl (by (try simp only [List.map_toArray, List.map_cons, List.map_nil]); first | done | rfl) ?_; (with_reducible refine (spec_l1Next.calls g s0_0 t157 t158 t159 256 t160 t161 t162 t163 w0 _ ?side1 ?side2 A10.out).mono ?_); (case side1 => exact IsS93.l HI0.out); (case side2 => exact bx HB.out); rintro e w15 ⟨rfl, hi, hb, hk⟩; refine ⟨_, rfl, ?_⟩; have n0_ := Aside0.mk (Kd.R_mono (Kd.R_keep (IsS93.apart (show IsS93 w0 _ g s0_0 t157 t158 t159 from by exact IsS93.l HI0.out) (RL zG.out) (by decide)) hk (fun _ h => h.2)) (fun _ h => h.1)); have n1_ := Aside0.mk (KeepBut.trans (by exact kx HK.out) hk (.inl rfl)); have n2_ := Aside0.mk (hb); have n3_ := Aside0.mk (hi); clear zG; clear HK; clear HB; clear HI0; have zG := n0_; have HK := n1_; have HB := n2_; have HI0 := n3_; clear n0_ n1_ n2_ n3_; (try clear hb); (try clear hb2); (try clear hk); (try clear hi); have p13 : 0 ≤ (t156 : Int) := of_decide_eq_true (by first | (with_reducible assumption) | assumption); have q13 : (t156 : Int) < ((x4_1.length : Int) : Int) := of_decide_eq_true (by first | (with_reducible assumption) | assumption); obtain ⟨go13, co13, eo13, zI, gl13, cl13, HG13⟩ := Kd.R_form zG.out (by omega); (first | cases eo13 | (injection eo13 with ea_ en_ ec_; (first | subst ea_ | (injection ea_ with ea_; subst ea_)); subst ec_; clear en_)); have GB13 := Aside0.mk zI; have GG13 := Aside0.mk HG13; clear zI gl13 HG13; obtain ⟨hx13_0, hf13_0⟩ := Kd.R_celln 0 zG.out (t156 : Int) p13 q13; replace p13 := eq_true p13; replace q13 := eq_true q13; obtain ⟨hy16_, hz16_⟩ := Kd.R_celln 0 zG.out (t156 : Int) (of_decide_eq_true (by first | (with_reducible assumption) | assumption)) (of_decide_eq_true (by first | (with_reducible assumption) | assumption)); have HP16 := Kd.R_putg zG.out (t156 : Int) ((t160) % 256)) | ((with_reducible refine gate_store (t := 5) (p := 25) rfl ?_); refine store_event (t := 5) (p := 25) (v := ?vo_w17) (w1 := (w15.setCell ⟨go13, (t156 : Int).toNat, none⟩ (.int .u8 ((t160) % 256)))) ?hg ?ho ?hn ?hr ?_; (case ho => rfl); (case hg => rfl); (case hn => rfl); (case hr => first | (go_simp; done) | (go_simp; rfl)); intro w17 hw; have hg : w15.grownBy w17 (some go13) := (by rw [hw]; exact HP16.2); have hp_ : Kd.R (Kd.int .u8) 5 w17 w.heap.size (fun _ => True) (.slice (some ⟨go13, 0, none⟩) x4_1.length co13) y164 := (by rw [hw, Ny164.out]; exact HP16.1); clear HP16; have n0_ := Aside0.mk (hp_); have n1_ := Aside0.mk (IsS93.grown (by exact IsS93.l HI0.out) hg (IsS93.own_ne HI0.out zG.out (by decide))); have n2_ := Aside0.mk ((by rw [hw]; exact belx_set (HB.out) (Nat.le_trans HL.out GB13.out) : BelX g w0 w17)); have n3_ := Aside0.mk (KeepBut.trans (by exact kx HK.out) (KeepBut.of_grown hg g) (Kd.R_base2 zG.out)); clear zG; clear HI0; clear HB; clear HK; have zG := n0_; have HI0 := n1_; have HB := n2_; have HK := n3_; clear n0_ n1_ n2_ n3_; clear hg hw hp_))
      go_ret
      exact ⟨_, by first | rfl | (simp [errW_none, errW_some] <;> rfl) | (simp [*, errW_none, errW_some] <;> rfl), RL zG.out, by repeat (first | (with_reducible first | exact HI0.out | apply IsS93.alloc | apply IsS93.drewN | apply IsS93.drew | apply IsS93.set_1 | apply IsS93.set_2 | apply IsS93.set_3) | exact HI0.out), by repeat (first | (with_reducible first | exact HB.out | apply belx_alloc | apply belx_drewN | apply belx_drew | apply belx_setg) | exact HB.out), by repeat (first | (with_reducible first | exact HK.out | apply KeepBut.set_ | apply zx | apply zy | apply zw) | exact HK.out)⟩
     ·rw [if_neg c12] at H
      exact absurd H (by simp)
    ·rw [if_neg c11] at H
     exact absurd H (by simp)
theorem spec_l1Fill.callsX {B_ : Nat} (k : Nat) (g : Nat) (s0_0 : List Int) (s0_1 : Int) (s0_2 : Int) (s0_3 : Int) (r1 : List Int) (r2 : Int) (r3 : Int) (r4 : Int) (w0 w : World) (hI : IsX93 B_ w0 w g s0_0 s0_1 s0_2 s0_3) (hB : Below w0.heap.size w0 w) (h : spec_l1Fill.f k s0_0 s0_1 s0_2 s0_3 = some (r1, r2, r3, r4)) :
  Calls Try.prog 38 #[.pointer (some ⟨g, 0, none⟩)] w fun e w' => ∃ v0_ : Value, e = .returned (v0_) ∧ Kd.R (Kd.int .u8) 5 w' w.heap.size (fun _ => True) v0_ r1 ∧ IsX93 B_ w0 w' g s0_0 r2 r3 r4 ∧ Below w0.heap.size w0 w' ∧ KeepBut w w' g none := by
 obtain ⟨wc_, hS_, hX_, hg_, hs_, hs2_, hs3_⟩ := hI
 refine (spec_l1Fill.calls k g s0_0 s0_1 s0_2 s0_3 r1 r2 r3 r4 wc_ w hS_ hX_ h).mono ?_
 rintro e w' ⟨v0_, q0_, q1_, q2_, q3_, q4_⟩
 exact ⟨v0_, q0_, q1_, ⟨wc_, q2_, q3_, hg_, hs_, hs2_, Nat.le_trans hs3_ (q4_.1)⟩, belx_out hB hX_ q3_ q4_ hg_, q4_⟩

def spec_NewDisk.f (a0 : Int) : Option (List Int × (List (S45))) := if a0 < 1 then (some (([] : List Int), ([] : List (S45)))) else (if a0 > 300 then (some (([] : List Int), ([] : List (S45)))) else (if 0 ≤ (wrap64 (a0 * 64)) then (if (wrap64 (a0 * 64) : Int).toNat ≤ 281474976710656 then (some ((List.replicate (wrap64 (a0 * 64) : Int).toNat 0), ([] : List (S45)))) else (none)) else (none)))
set_option maxHeartbeats 8000000 in
set_option maxRecDepth 100000 in
theorem spec_NewDisk.calls (a0 : Int) (r1 : List Int) (r2 : List (S45)) (w : World) (h : spec_NewDisk.f a0 = some (r1, r2)) :
  Calls Try.prog 82 #[.int .i64 a0] w fun e w' => ∃ v0_ v1_ : Value, e = .returned (.agg #[v0_, v1_]) ∧ Kd.R (Kd.int .u8) 5 w' w.heap.size (fun _ => True) v0_ r1 ∧ Kd.S k45 45 w' w.heap.size (fun k_ => some k_ ≠ (v0_ : Value).ownBlock) v1_ r2 ∧ Below w.heap.size w w' := by
 have hu35 := Try.underlying35
 have HB := Aside0.mk (Below.refl w.heap.size w)
 have H : (if a0 < 1 then (some (([] : List Int), ([] : List (S45)))) else (if a0 > 300 then (some (([] : List Int), ([] : List (S45)))) else (if 0 ≤ (wrap64 (a0 * 64)) then (if (wrap64 (a0 * 64) : Int).toNat ≤ 281474976710656 then (some ((List.replicate (wrap64 (a0 * 64) : Int).toNat 0), ([] : List (S45)))) else (none)) else (none)))) = some (r1, r2) := h
 clear h
 by_cases c2 : a0 < 1
 ·rw [if_pos c2] at H
  have c2b0 : decide (a0 < 1) = true := decide_eq_true c2
  clear c2
  simp only [Option.some.injEq, Prod.mk.injEq] at H
  obtain ⟨rfl, rfl⟩ := H
  go_enter Try.func82, Try.ntmps82
  go_wp2_with (first | ((with_reducible refine zt (N := 2) rfl ?_); refine zF ?hg (N := 2) ?hd (cs := #[.slice none 0 0, .slice none 0 0]) (t := 35) ?hr ?_; (case hd => rfl); (case hg => rfl); (case hr => first | (go_simp; done) | (go_simp; rfl)); intro zH hg w3 hbox hb; have n0_ := Aside0.mk (zk (by exact bl HB.out) hb); have n1_ := Aside0.mk (hbox); have n2_ := Aside0.mk ((by rw [hg]; exact (zm (by exact bl HB.out)) : w.heap.size ≤ zH)); have n3_ := Aside0.mk ((by rw [hg]; exact (zm (by exact bl HB.out)) : w.heap.size ≤ zH)); clear HB; have HB := n0_; have zG := n1_; have GW165 := n2_; have zI := n3_; clear n0_ n1_ n2_ n3_; clear hb hbox hg; have zP : w3.cell? ⟨zH, 0, none⟩ = some (.slice none 0 0) := (zb zG.out 0).trans rfl; have zQ : w3.cell? ⟨zH, 1, none⟩ = some (.slice none 0 0) := (zb zG.out 1).trans rfl; have zR := zd zG.out 0; have zS := zd zG.out 1))
  refine bodyPost_ret (results_cell_row rfl _ _ zH 35 #[.slice none 0 0, .slice none 0 0] (0, 0) _ rfl (by (with_reducible repeat (first | refine zj ?_ _ | refine zg ?_ | refine zh ?_ _)); refine zz (cs := #[.slice none 0 0, .slice none 0 0]) ?_ 1 _ rfl; (with_reducible repeat (first | refine zj ?_ _ | refine zg ?_ | refine zh ?_ _)); refine zz (cs := #[.slice none 0 0, .slice none 0 0]) ?_ 0 _ rfl; (with_reducible repeat (first | refine zj ?_ _ | refine zg ?_ | refine zh ?_ _)); exact zG.out) Try.underlying35 rfl (by kernel_rfl)) rfl ?_
  exact ⟨_, _, by first | rfl | (simp [errW_none, errW_some] <;> rfl) | (simp [*, errW_none, errW_some] <;> rfl), by first | exact Kd.R_nil _ _ _ _ _ | exact Kd.N_nil _ _ _ _ _ | exact Kd.V_nil _ _ _ _ _ | exact Kd.Q_nil _ _ _ _ _ | exact Kd.S_nil _ _ _ _ _, by first | exact Kd.S_nil _ _ _ _ _ | exact Kd.N_nil _ _ _ _ _ | exact Kd.V_nil _ _ _ _ _ | exact Kd.Q_nil _ _ _ _ _ | exact Kd.R_nil _ _ _ _ _, by repeat (first | (with_reducible first | exact HB.out | apply zf | apply ze | apply zi | refine zc ?_ zI.out) | exact HB.out)⟩
 ·rw [if_neg c2] at H
  have c2b0 : decide (a0 < 1) = false := decide_eq_false c2
  clear c2
  by_cases c5 : a0 > 300
  ·rw [if_pos c5] at H
   have c5b0 : decide (300 < a0) = true := decide_eq_true c5
   clear c5
   simp only [Option.some.injEq, Prod.mk.injEq] at H
   obtain ⟨rfl, rfl⟩ := H
   go_enter Try.func82, Try.ntmps82
   go_wp2_with (first | ((with_reducible refine zt (N := 2) rfl ?_); refine zF ?hg (N := 2) ?hd (cs := #[.slice none 0 0, .slice none 0 0]) (t := 35) ?hr ?_; (case hd => rfl); (case hg => rfl); (case hr => first | (go_simp; done) | (go_simp; rfl)); intro zH hg w6 hbox hb; have n0_ := Aside0.mk (zk (by exact bl HB.out) hb); have n1_ := Aside0.mk (hbox); have n2_ := Aside0.mk ((by rw [hg]; exact (zm (by exact bl HB.out)) : w.heap.size ≤ zH)); have n3_ := Aside0.mk ((by rw [hg]; exact (zm (by exact bl HB.out)) : w.heap.size ≤ zH)); clear HB; have HB := n0_; have zG := n1_; have GW165 := n2_; have zI := n3_; clear n0_ n1_ n2_ n3_; clear hb hbox hg; have zT : w6.cell? ⟨zH, 0, none⟩ = some (.slice none 0 0) := (zb zG.out 0).trans rfl; have zU : w6.cell? ⟨zH, 1, none⟩ = some (.slice none 0 0) := (zb zG.out 1).trans rfl; have zV := zd zG.out 0; have zW := zd zG.out 1))
   refine bodyPost_ret (results_cell_row rfl _ _ zH 35 #[.slice none 0 0, .slice none 0 0] (0, 0) _ rfl (by (with_reducible repeat (first | refine zj ?_ _ | refine zg ?_ | refine zh ?_ _)); refine zz (cs := #[.slice none 0 0, .slice none 0 0]) ?_ 1 _ rfl; (with_reducible repeat (first | refine zj ?_ _ | refine zg ?_ | refine zh ?_ _)); refine zz (cs := #[.slice none 0 0, .slice none 0 0]) ?_ 0 _ rfl; (with_reducible repeat (first | refine zj ?_ _ | refine zg ?_ | refine zh ?_ _)); exact zG.out) Try.underlying35 rfl (by kernel_rfl)) rfl ?_
   exact ⟨_, _, by first | rfl | (simp [errW_none, errW_some] <;> rfl) | (simp [*, errW_none, errW_some] <;> rfl), by first | exact Kd.R_nil _ _ _ _ _ | exact Kd.N_nil _ _ _ _ _ | exact Kd.V_nil _ _ _ _ _ | exact Kd.Q_nil _ _ _ _ _ | exact Kd.S_nil _ _ _ _ _, by first | exact Kd.S_nil _ _ _ _ _ | exact Kd.N_nil _ _ _ _ _ | exact Kd.V_nil _ _ _ _ _ | exact Kd.Q_nil _ _ _ _ _ | exact Kd.R_nil _ _ _ _ _, by repeat (first | (with_reducible first | exact HB.out | apply zf | apply ze | apply zi | refine zc ?_ zI.out) | exact HB.out)⟩
  ·rw [if_neg c5] at H
   have c5b0 : decide (300 < a0) = false := decide_eq_false c5
   clear c5
   obtain ⟨ji8, hji8⟩ : ∃ j_ : Int, (wrap64 (a0 * 64)) = j_ := ⟨_, rfl⟩
   replace H : (if 0 ≤ (ji8) then (if (ji8 : Int).toNat ≤ 281474976710656 then (some ((List.replicate (ji8 : Int).toNat 0), ([] : List (S45)))) else (none)) else (none)) = some (r1, r2) := by first | (rw [hji8] at H; exact H) | (simp only [hji8] at H ⊢; exact H)
   have hji8w : (IntKind.i64.wrap (a0 * 64)) = ji8 := (zp _).trans hji8
   by_cases c9 : 0 ≤ (ji8)
   ·rw [if_pos c9] at H
    have c9b0 := eq_true c9
    have c9b1 : decide (0 ≤ (ji8)) = true := decide_eq_true c9
    clear c9
    by_cases c10 : (ji8 : Int).toNat ≤ 281474976710656
    ·rw [if_pos c10] at H
     have c10b0 := eq_true c10
     have c10b1 : decide ((ji8 : Int).toNat ≤ 281474976710656) = true := decide_eq_true c10
     clear c10
     obtain ⟨y166, hy166⟩ : ∃ y_ : List Int, y_ = (List.replicate (ji8 : Int).toNat 0) := ⟨_, rfl⟩
     replace H : (some (y166, ([] : List (S45)))) = some (r1, r2) := by first | (rw [hy166]; with_reducible exact H) | (have H2_ := (Option.bind_some _ _).symm.trans H; rw [hy166]; with_reducible exact H2_) | (have H2_ := (Option.bind_some _ _).symm.trans H; with_reducible exact H2_) | with_reducible exact H | (rw [hy166]; exact H) | exact H
     have Ny166 := Aside0.mk hy166
     clear hy166
     simp only [Option.some.injEq, Prod.mk.injEq] at H
     obtain ⟨rfl, rfl⟩ := H
     go_enter Try.func82, Try.ntmps82
     go_wp2_with (first | ((with_reducible refine zt (N := 2) rfl ?_); refine zF ?hg (N := 2) ?hd (cs := #[.slice none 0 0, .slice none 0 0]) (t := 35) ?hr ?_; (case hd => rfl); (case hg => rfl); (case hr => first | (go_simp; done) | (go_simp; rfl)); intro zH hg w11 hbox hb; have n0_ := Aside0.mk (zk (by exact bl HB.out) hb); have n1_ := Aside0.mk (hbox); have n2_ := Aside0.mk ((by rw [hg]; exact (zm (by exact bl HB.out)) : w.heap.size ≤ zH)); have n3_ := Aside0.mk ((by rw [hg]; exact (zm (by exact bl HB.out)) : w.heap.size ≤ zH)); clear HB; have HB := n0_; have zG := n1_; have GW165 := n2_; have zI := n3_; clear n0_ n1_ n2_ n3_; clear hb hbox hg) | ((with_reducible refine zt (N := 12) rfl ?_); refine Kd.R_make (Kd.int .u8) _ 5 rfl (N := 12) rfl 22 _ _ rfl ji8 rfl rfl Try.underlying22 (.int .u8 0) 1 info5 rfl (by decide) (by omega) 0 (ok := fun _ => True) (okp := fun _ => True) rfl (fun _ hk => hk) trivial (of_decide_eq_true (by first | (with_reducible assumption) | assumption)) (Nat.le_trans (Nat.mul_le_mul_right _ (of_decide_eq_true (by first | (with_reducible assumption) | assumption) : ji8.toNat ≤ 281474976710656)) (by omega)) (Below.refl _ _) (Nat.le_refl _) ?_; intro v167 w12 zJ hb hg_ hnew_; clear hg_ hnew_; (first | rw [← Ny166.out] at zJ | (simp only [Int.reduceToNat] at zJ; rw [← Ny166.out] at zJ)); have n0_ := Aside0.mk (Kd.R_lower zJ (zm (by exact bl HB.out))); have n1_ := Aside0.mk (zl (g := zH) (o := .cells #[.slice none 0 0, .slice none 0 0] 35 (0, 0)) (BL zG.out) hb); have n2_ := Aside0.mk (zk (by exact bl HB.out) hb); clear zG; clear HB; have zK := n0_; have zG := n1_; have HB := n2_; clear n0_ n1_ n2_; clear hb zJ; obtain ⟨Ao14, co14, eo14⟩ := Kd.R_slice zK.out; subst eo14; have zL : w12.cell? ⟨zH, 0, none⟩ = some (.slice none 0 0) := (zb zG.out 0).trans rfl; have zM : w12.cell? ⟨zH, 1, none⟩ = some (.slice none 0 0) := (zb zG.out 1).trans rfl; have zN := zd zG.out 0; have zO := zd zG.out 1))
     refine bodyPost_ret (results_cell_row rfl _ _ zH 35 #[.slice Ao14 y166.length co14, .slice none 0 0] (0, 0) _ rfl (by (with_reducible repeat (first | refine zj ?_ _ | refine zg ?_ | refine zh ?_ _)); refine zz (cs := #[.slice Ao14 y166.length co14, .slice none 0 0]) ?_ 1 _ rfl; (with_reducible repeat (first | refine zj ?_ _ | refine zg ?_ | refine zh ?_ _)); refine zz (cs := #[.slice none 0 0, .slice none 0 0]) ?_ 0 _ rfl; (with_reducible repeat (first | refine zj ?_ _ | refine zg ?_ | refine zh ?_ _)); exact zG.out) Try.underlying35 rfl (by kernel_rfl)) rfl ?_
     exact ⟨_, _, by first | rfl | (simp [errW_none, errW_some] <;> rfl) | (simp only [← hji8]; first | rfl | (simp [errW_none, errW_some] <;> rfl)) | (simp [*, errW_none, errW_some] <;> rfl), RL (Kd.R_mono (Kd.R_far (p := ⟨zH, 1, none⟩) (Kd.R_far (p := ⟨zH, 0, none⟩) (Kd.R_types zK.out zG.out (by decide)) (fun _ hk => hk.2) (.slice Ao14 y166.length co14)) (fun _ hk => hk.2) (.slice none 0 0)) (fun _ hk => trivial)), by first | exact Kd.S_nil _ _ _ _ _ | exact Kd.N_nil _ _ _ _ _ | exact Kd.V_nil _ _ _ _ _ | exact Kd.Q_nil _ _ _ _ _ | exact Kd.R_nil _ _ _ _ _, by repeat (first | (with_reducible first | exact HB.out | apply zf | apply ze | apply zi | refine zc ?_ zI.out) | exact HB.out)⟩
    ·rw [if_neg c10] at H
     exact absurd H (by simp)
   ·rw [if_neg c9] at H
    exact absurd H (by simp)

end Go.Proofs.Ytejecjjimggjeaa.GFnSync
