/- Written by give.py, a program of this session, that runs the kit's print and lays contracts proved by hand beside it. -/
import Derived.Test.YtejecjjimggjeaaGFnSyncx0
namespace Go.Proofs.Ytejecjjimggjeaa.GFnSync
open Go.RowKit Go.Proofs.YtejecjjimggjeaaW.PrintWords Go.Proofs.YtejecjjimggjeaaW.PrintLast Go.Proofs.YtejecjjimggjeaaW.PrintMore
attribute [local go_sem] max2_int min2_int max_two min_two max_three min_three max_four min_four
attribute [local go_sem high] Go.Proofs.YtejecjjimggjeaaH.str_leq Go.Proofs.YtejecjjimggjeaaH.str_geq Go.Proofs.YtejecjjimggjeaaH.str_gtr   -- for this text's walks alone
set_option linter.unusedVariables false
set_option linter.unusedSimpArgs false

def spec_l1Blocks.f (l0_0 : List Int) (l0_1 : List (S45)) : Option (Int) := some (wrap64 ((l0_0.length : Int) / 64))
set_option maxHeartbeats 8000000 in
set_option maxRecDepth 100000 in
theorem spec_l1Blocks.calls (A0_0 : Option Addr) (c0_0 : Nat) (l0_0 : List Int) (A0_1 : Option Addr) (c0_1 : Nat) (l0_1 : List (S45)) (r : Int) (w : World) (hr0_0 : Kd.C (Kd.int .u8) w A0_0 l0_0.length l0_0) (hc0_0 : l0_0.length ≤ c0_0) (hr0_1 : Kd.C k45 w A0_1 l0_1.length l0_1) (hc0_1 : l0_1.length ≤ c0_1) (h : spec_l1Blocks.f l0_0 l0_1 = some r) :
  Calls Try.prog 37 #[.agg #[.slice A0_0 l0_0.length c0_0, .slice A0_1 l0_1.length c0_1]] w fun e w' => e = .returned (.int .i64 r) ∧ Below w.heap.size w w' := by
 have hu35 := Try.underlying35
 have HR0_0 := Aside0.mk hr0_0
 have HC0_0 := Aside0.mk hc0_0
 clear hr0_0 hc0_0
 have HR0_1 := Aside0.mk hr0_1
 have HC0_1 := Aside0.mk hc0_1
 clear hr0_1 hc0_1
 have HB := Aside0.mk (Below.refl w.heap.size w)
 have H : (some (wrap64 ((l0_0.length : Int) / 64))) = some r := h
 clear h
 obtain rfl := Option.some.inj H
 go_enter Try.func37, Try.ntmps37
 go_wp2_with (first | ((with_reducible refine zt (N := 1) rfl ?_); refine zF ?hg (N := 1) ?hd (cs := #[.slice A0_0 l0_0.length c0_0, .slice A0_1 l0_1.length c0_1]) (t := 35) ?hr ?_; (case hd => rfl); (case hg => rfl); (case hr => first | (go_simp; done) | (go_simp; rfl)); intro zG hg w2 hbox hb; have n0_ := Aside0.mk (zk (by exact bl HB.out) hb); have n1_ := Aside0.mk (hbox); have n2_ := Aside0.mk ((by rw [hg]; exact (zm (by exact bl HB.out)) : w.heap.size ≤ zG)); have n3_ := Aside0.mk ((by rw [hg]; exact (zm (by exact bl HB.out)) : w.heap.size ≤ zG)); clear HB; have HB := n0_; have zH := n1_; have GW102 := n2_; have zI := n3_; clear n0_ n1_ n2_ n3_; clear hb hbox hg; have zJ : w2.cell? ⟨zG, 0, none⟩ = some (.slice A0_0 l0_0.length c0_0) := (zb zH.out 0).trans rfl; have zK : w2.cell? ⟨zG, 1, none⟩ = some (.slice A0_1 l0_1.length c0_1) := (zb zH.out 1).trans rfl; have zL := zd zH.out 0; have zM := zd zH.out 1))
 go_ret
 exact ⟨by first | rfl | (simp [errW_none, errW_some] <;> rfl) | (simp [*, errW_none, errW_some] <;> rfl), by repeat (first | (with_reducible first | exact HB.out | apply zf | apply ze | apply zi | refine zc ?_ zI.out) | exact HB.out)⟩

mutual
def spec_ValidDisk.j0 : Nat → Int → Bool → List Int → List (S45) → Option (Bool)
 | 0, _, _, _, _ => none
 | k + 1, x3, x25, x104000, x104001 => if x25 = true then (some false) else (spec_ValidDisk.l0 k x3 0 x104000 x104001)
def spec_ValidDisk.l0 : Nat → Int → Int → List Int → List (S45) → Option (Bool)
 | 0, _, _, _, _ => none
 | k + 1, x3, x4, x104000, x104001 => if x4 < (x104001.length : Int) then (if 0 ≤ x4 then (if ((rd_T45 x104001 x4).f0) < 0 then (some false) else (if ((rd_T45 x104001 x4).f0) ≥ x3 then (some false) else (if (((rd_T45 x104001 x4).f1).length : Int) = 64 then (spec_ValidDisk.l0 k x3 (wrap64 (x4 + 1)) x104000 x104001) else (some false)))) else (none)) else (some true)
end
def spec_ValidDisk.f (k : Nat) (l0_0 : List Int) (l0_1 : List (S45)) : Option (Bool) := (spec_l1Blocks.f l0_0 l0_1).bind fun t104 => (if ((l0_0.length : Int) % 64) = 0 then (if t104 < 1 then (spec_ValidDisk.j0 k t104 true l0_0 l0_1) else (if t104 > 300 then (spec_ValidDisk.j0 k t104 true l0_0 l0_1) else (spec_ValidDisk.j0 k t104 (decide ((l0_1.length : Int) > 2000)) l0_0 l0_1))) else (spec_ValidDisk.j0 k t104 true l0_0 l0_1))
theorem spec_ValidDisk.mono_l : ∀ k, (∀ y0 y1 y2 y3, LeO (spec_ValidDisk.j0 k y0 y1 y2 y3) (spec_ValidDisk.j0 (k + 1) y0 y1 y2 y3)) ∧ (∀ y0 y1 y2 y3, LeO (spec_ValidDisk.l0 k y0 y1 y2 y3) (spec_ValidDisk.l0 (k + 1) y0 y1 y2 y3))
 | 0 => ⟨fun _ _ _ _ r h => by simp [spec_ValidDisk.j0] at h, fun _ _ _ _ r h => by simp [spec_ValidDisk.l0] at h⟩
 | k + 1 => by
  obtain ⟨ih0, ih1⟩ := spec_ValidDisk.mono_l k
  refine ⟨?_, ?_⟩
  ·intro y0 y1 y2 y3
   unfold spec_ValidDisk.j0
   repeat' first
   | (with_reducible exact ih0 _ _ _ _)
   | (with_reducible exact ih1 _ _ _ _)
   | (with_reducible exact LeO.refl _)
   | (with_reducible exact LeO.none _)
   | (with_reducible refine LeO.ite ?_ ?_)
   | (with_reducible refine LeO.bind ?_ (fun _ => ?_))
   | exact ih0 _ _ _ _
   | exact ih1 _ _ _ _
   | exact LeO.none _
   | refine LeO.ite ?_ ?_
   | refine LeO.bind ?_ (fun _ => ?_)
  ·intro y0 y1 y2 y3
   unfold spec_ValidDisk.l0
   repeat' first
   | (with_reducible exact ih0 _ _ _ _)
   | (with_reducible exact ih1 _ _ _ _)
   | (with_reducible exact LeO.refl _)
   | (with_reducible exact LeO.none _)
   | (with_reducible refine LeO.ite ?_ ?_)
   | (with_reducible refine LeO.bind ?_ (fun _ => ?_))
   | exact ih0 _ _ _ _
   | exact ih1 _ _ _ _
   | exact LeO.none _
   | refine LeO.ite ?_ ?_
   | refine LeO.bind ?_ (fun _ => ?_)
theorem spec_ValidDisk.mono : ∀ a0 a1 k, LeO (spec_ValidDisk.f k a0 a1) (spec_ValidDisk.f (k + 1) a0 a1) := by
 intro a0 a1 k
 obtain ⟨ih0, ih1⟩ := spec_ValidDisk.mono_l k
 unfold spec_ValidDisk.f
 repeat' first
   | (with_reducible exact ih0 _ _ _ _)
   | (with_reducible exact ih1 _ _ _ _)
   | (with_reducible exact LeO.refl _)
   | (with_reducible exact LeO.none _)
   | (with_reducible refine LeO.ite ?_ ?_)
   | (with_reducible refine LeO.bind ?_ (fun _ => ?_))
   | exact ih0 _ _ _ _
   | exact ih1 _ _ _ _
   | exact LeO.none _
   | refine LeO.ite ?_ ?_
   | refine LeO.bind ?_ (fun _ => ?_)
set_option maxHeartbeats 8000000 in
set_option maxRecDepth 100000 in
theorem spec_ValidDisk.calls (k : Nat) (A0_0 : Option Addr) (c0_0 : Nat) (l0_0 : List Int) (A0_1 : Option Addr) (c0_1 : Nat) (l0_1 : List (S45)) (r : Bool) (w : World) (hr0_0 : Kd.C (Kd.int .u8) w A0_0 l0_0.length l0_0) (hc0_0 : l0_0.length ≤ c0_0) (hr0_1 : Kd.C k45 w A0_1 l0_1.length l0_1) (hc0_1 : l0_1.length ≤ c0_1) (h : spec_ValidDisk.f k l0_0 l0_1 = some r) :
  Calls Try.prog 44 #[.agg #[.slice A0_0 l0_0.length c0_0, .slice A0_1 l0_1.length c0_1]] w fun e w' => e = .returned (.bool r) ∧ Below w.heap.size w w' := by
 have hu35 := Try.underlying35
 have HR0_0 := Aside0.mk hr0_0
 have HC0_0 := Aside0.mk hc0_0
 clear hr0_0 hc0_0
 have HR0_1 := Aside0.mk hr0_1
 have HC0_1 := Aside0.mk hc0_1
 clear hr0_1 hc0_1
 have HB := Aside0.mk (Below.refl w.heap.size w)
 have H : ((spec_l1Blocks.f l0_0 l0_1).bind fun t104 => (if ((l0_0.length : Int) % 64) = 0 then (if t104 < 1 then (spec_ValidDisk.j0 k t104 true l0_0 l0_1) else (if t104 > 300 then (spec_ValidDisk.j0 k t104 true l0_0 l0_1) else (spec_ValidDisk.j0 k t104 (decide ((l0_1.length : Int) > 2000)) l0_0 l0_1))) else (spec_ValidDisk.j0 k t104 true l0_0 l0_1))) = some r := h
 clear h
 replace H := Option.bind_eq_some_iff.mp H
 obtain ⟨t104, A20, H⟩ := H
 replace H : (if ((l0_0.length : Int) % 64) = 0 then (if t104 < 1 then (spec_ValidDisk.j0 k t104 true l0_0 l0_1) else (if t104 > 300 then (spec_ValidDisk.j0 k t104 true l0_0 l0_1) else (spec_ValidDisk.j0 k t104 (decide ((l0_1.length : Int) > 2000)) l0_0 l0_1))) else (spec_ValidDisk.j0 k t104 true l0_0 l0_1)) = some r := H
 have A2 := Aside0.mk A20
 clear A20
 have HC3 := Aside0.mk H
 clear H
 go_enter Try.func44, Try.ntmps44
 go_upto_region 2 with (first | ((with_reducible refine zt (N := 1) rfl ?_); (try (refine gate_guard (by rfl) ?_; dsimp only)); refine zF ?hg (N := 1) ?hd (cs := #[.slice A0_0 l0_0.length c0_0, .slice A0_1 l0_1.length c0_1]) (t := 35) ?hr ?_; (case hd => rfl); (case hg => rfl); (case hr => first | (go_simp; done) | (go_simp; rfl)); intro zH hg w4 hbox hb; have n0_ := Aside0.mk (zk (by exact bl HB.out) hb); have n1_ := Aside0.mk (hbox); have n2_ := Aside0.mk ((by rw [hg]; exact (zm (by exact bl HB.out)) : w.heap.size ≤ zH)); have n3_ := Aside0.mk ((by rw [hg]; exact (zm (by exact bl HB.out)) : w.heap.size ≤ zH)); clear HB; have HB := n0_; have zG := n1_; have GW103 := n2_; have zI := n3_; clear n0_ n1_ n2_ n3_; clear hb hbox hg; have zV : w4.cell? ⟨zH, 0, none⟩ = some (.slice A0_0 l0_0.length c0_0) := (zb zG.out 0).trans rfl; have zW : w4.cell? ⟨zH, 1, none⟩ = some (.slice A0_1 l0_1.length c0_1) := (zb zG.out 1).trans rfl; have zX := zd zG.out 0; have zY := zd zG.out 1) | ((with_reducible refine zo (f := 37) rfl ?_); refine zC (some 6) rfl rfl Try.func37 (by kernel_rfl) rfl #[.agg #[.slice A0_0 l0_0.length c0_0, .slice A0_1 l0_1.length c0_1]] rfl (by (try simp only [List.map_toArray, List.map_cons, List.map_nil]); first | done | rfl) ?_; (with_reducible refine (spec_l1Blocks.calls _ _ l0_0 _ _ l0_1 t104 _ ?side1 ?side2 ?side3 ?side4 A2.out).mono ?_); (case side1 => repeat (first | exact (Kd.C_below HR0_0.out HB.out) | (with_reducible refine Kd.C_alloc ?_ _) | (with_reducible refine Kd.C_drewN ?_ _) | (with_reducible refine Kd.C_drew ?_))); (case side2 => exact HC0_0.out); (case side3 => repeat (first | exact (Kd.C_below HR0_1.out HB.out) | (with_reducible refine Kd.C_alloc ?_ _) | (with_reducible refine Kd.C_drewN ?_ _) | (with_reducible refine Kd.C_drew ?_))); (case side4 => exact HC0_1.out); rintro e w6 ⟨rfl, hb⟩; refine ⟨_, rfl, ?_⟩; have n0_ := Aside0.mk (zl (g := zH) (o := .cells #[.slice A0_0 l0_0.length c0_0, .slice A0_1 l0_1.length c0_1] 35 (0, 0)) (BL zG.out) hb); have n1_ := Aside0.mk (zk (by exact bl HB.out) hb); clear zG; clear HB; have zG := n0_; have HB := n1_; clear n0_ n1_; (try clear hb); (try clear hb2); (try clear hk); (try clear hi)))
 (try simp only [Act.put, List.setIfInBounds_toArray, List.set_cons_zero, List.set_cons_succ])
 go_cut [25] (fun v25 wc => ∃ (kq : Nat) (x25_2 : Bool), v25 = .bool x25_2 ∧ Aside0 (spec_ValidDisk.j0 kq t104 x25_2 l0_0 l0_1 = some r) ∧ Aside0 (kq ≤ k) ∧ Aside0 (wc.heap[zH]? = some (.cells #[(.slice A0_0 l0_0.length c0_0), (.slice A0_1 l0_1.length c0_1)] 35 (0, 0))) ∧ Aside0 (Below w.heap.size w wc))
 case first =>
  have H := HC3.out
  clear HC3
  by_cases c7 : ((l0_0.length : Int) % 64) = 0
  ·rw [if_pos c7] at H
   have c7b0 : (((l0_0.length : Int) % 64) == 0) = true := beq_iff_eq.mpr c7
   have c7b1 : (((l0_0.length : Int) % 64) != 0) = false := bne_eq_false_iff_eq.mpr c7
   clear c7
   (first | rw [c7b0] | (simp only [zp, zq]; rw [c7b0]) | skip)
   by_cases c8 : t104 < 1
   ·rw [if_pos c8] at H
    have c8b0 : decide (t104 < 1) = true := decide_eq_true c8
    clear c8
    have H' := Aside0.mk H
    clear H
    have zZ : w6.cell? ⟨zH, 0, none⟩ = some (.slice A0_0 l0_0.length c0_0) := (zb zG.out 0).trans rfl
    have zab : w6.cell? ⟨zH, 1, none⟩ = some (.slice A0_1 l0_1.length c0_1) := (zb zG.out 1).trans rfl
    have zbb := zd zG.out 0
    have zcb := zd zG.out 1
    go_wp2
    go_meet
    case rel => exact ⟨_, (true), (by first | rfl | (simp; done) | (simp [*]; done)), H', ⟨by first | omega | exact Nat.le_refl _⟩, ⟨BL zG.out⟩, ⟨by repeat (first | (with_reducible first | exact HB.out | apply zf | apply ze | apply zi | refine zc ?_ zI.out) | exact HB.out)⟩⟩
   ·rw [if_neg c8] at H
    have c8b0 : decide (t104 < 1) = false := decide_eq_false c8
    clear c8
    by_cases c10 : t104 > 300
    ·rw [if_pos c10] at H
     have c10b0 : decide (300 < t104) = true := decide_eq_true c10
     clear c10
     have H' := Aside0.mk H
     clear H
     have zJ : w6.cell? ⟨zH, 0, none⟩ = some (.slice A0_0 l0_0.length c0_0) := (zb zG.out 0).trans rfl
     have zK : w6.cell? ⟨zH, 1, none⟩ = some (.slice A0_1 l0_1.length c0_1) := (zb zG.out 1).trans rfl
     have zL := zd zG.out 0
     have zM := zd zG.out 1
     go_wp2
     go_meet
     case rel => exact ⟨_, (true), (by first | rfl | (simp; done) | (simp [*]; done)), H', ⟨by first | omega | exact Nat.le_refl _⟩, ⟨BL zG.out⟩, ⟨by repeat (first | (with_reducible first | exact HB.out | apply zf | apply ze | apply zi | refine zc ?_ zI.out) | exact HB.out)⟩⟩
    ·rw [if_neg c10] at H
     have c10b0 : decide (300 < t104) = false := decide_eq_false c10
     clear c10
     have H' := Aside0.mk H
     clear H
     have zN : w6.cell? ⟨zH, 0, none⟩ = some (.slice A0_0 l0_0.length c0_0) := (zb zG.out 0).trans rfl
     have zO : w6.cell? ⟨zH, 1, none⟩ = some (.slice A0_1 l0_1.length c0_1) := (zb zG.out 1).trans rfl
     have zP := zd zG.out 0
     have zQ := zd zG.out 1
     go_wp2
     go_meet
     case rel => exact ⟨_, (decide ((l0_1.length : Int) > 2000)), (by first | rfl | (simp; done) | (simp [*]; done)), H', ⟨by first | omega | exact Nat.le_refl _⟩, ⟨BL zG.out⟩, ⟨by repeat (first | (with_reducible first | exact HB.out | apply zf | apply ze | apply zi | refine zc ?_ zI.out) | exact HB.out)⟩⟩
  ·rw [if_neg c7] at H
   have c7b0 : (((l0_0.length : Int) % 64) == 0) = false := beq_eq_false_iff_ne.mpr c7
   have c7b1 : (((l0_0.length : Int) % 64) != 0) = true := bne_iff_ne.mpr c7
   (first | rw [c7b0] | (simp only [zp, zq]; rw [c7b0]) | skip)
   have H' := Aside0.mk H
   clear H
   have zR : w6.cell? ⟨zH, 0, none⟩ = some (.slice A0_0 l0_0.length c0_0) := (zb zG.out 0).trans rfl
   have zS : w6.cell? ⟨zH, 1, none⟩ = some (.slice A0_1 l0_1.length c0_1) := (zb zG.out 1).trans rfl
   have zT := zd zG.out 0
   have zU := zd zG.out 1
   go_wp2
   go_meet
   case rel => exact ⟨_, (true), (by first | rfl | (simp; done) | (simp [*]; done)), H', ⟨by first | omega | exact Nat.le_refl _⟩, ⟨BL zG.out⟩, ⟨by repeat (first | (with_reducible first | exact HB.out | apply zf | apply ze | apply zi | refine zc ?_ zI.out) | exact HB.out)⟩⟩
 case rest =>
  clear HC3
  try clear c1
  try clear p2
  try clear c3
  try clear c4
  try clear c7
  try clear c7b0
  try clear c7b1
  try clear c8
  try clear c8b0
  try clear c10
  try clear c10b0
  try clear zJ
  try clear zK
  try clear zN
  try clear zO
  try clear zR
  try clear zS
  try clear zV
  try clear zW
  try clear zZ
  try clear zab
  try clear zL
  try clear zM
  try clear zP
  try clear zQ
  try clear zT
  try clear zU
  try clear zX
  try clear zY
  try clear zbb
  try clear zcb
  obtain ⟨kq, x25_2, rfl, HA, HJ2, zG, HB⟩ := hcut
  cases kq with
  | zero => exact absurd HA.out (by simp [spec_ValidDisk.j0])
  | succ kj2 =>
   have H := HA.out
   clear HA
   simp only [spec_ValidDisk.j0] at H
   by_cases c14 : x25_2 = true
   ·subst c14
    have H1 : (some false) = some r := by rw [if_pos rfl] at H; exact H
    clear H
    have H := H1
    clear H1
    obtain rfl := Option.some.inj H
    go_wp2
    go_ret
    exact ⟨by first | rfl | (simp [errW_none, errW_some] <;> rfl) | (simp [*, errW_none, errW_some] <;> rfl), by repeat (first | (with_reducible first | exact HB.out | apply zf | apply ze | apply zi | refine zc ?_ zI.out) | exact HB.out)⟩
   ·replace c14 := Bool.eq_false_iff.mpr c14
    subst c14
    have H1 : (spec_ValidDisk.l0 kj2 t104 0 l0_0 l0_1) = some r := by rw [if_neg (show ¬ (false = true) by decide)] at H; exact H
    clear H
    have H := H1
    clear H1
    have H' := Aside0.mk H
    clear H
    go_wp2
    go_loopg [4] kj2 (fun kq v4 w' => ∃ (x4_2 : Int), v4 = .int .i64 x4_2 ∧ Aside0 (spec_ValidDisk.l0 kq t104 x4_2 l0_0 l0_1 = some r) ∧ Aside0 (kq ≤ kj2) ∧ Aside0 (w'.heap[zH]? = some (.cells #[(.slice A0_0 l0_0.length c0_0), (.slice A0_1 l0_1.length c0_1)] 35 (0, 0))) ∧ Aside0 (Below w.heap.size w w'))
    case atStart => exact ⟨(0), (by first | rfl | (simp; done) | (simp [*]; done)), H', ⟨Nat.le_refl _⟩, ⟨BL zG.out⟩, ⟨by repeat (first | (with_reducible first | exact HB.out | apply zf | apply ze | apply zi | refine zc ?_ zI.out) | exact HB.out)⟩⟩
    case round =>
     clear H'
     try clear c1
     try clear p2
     try clear c3
     try clear c4
     try clear c7
     try clear c7b0
     try clear c7b1
     try clear c8
     try clear c8b0
     try clear c10
     try clear c10b0
     try clear c14
     try clear zJ
     try clear zK
     try clear zN
     try clear zO
     try clear zR
     try clear zS
     try clear zV
     try clear zW
     try clear zZ
     try clear zab
     try clear zL
     try clear zM
     try clear zP
     try clear zQ
     try clear zT
     try clear zU
     try clear zX
     try clear zY
     try clear zbb
     try clear zcb
     try clear p2
     obtain ⟨x4_2, rfl, HA, HK2, zG, HB⟩ := hrel
     cases gk with
     | zero => exact absurd HA.out (by simp [spec_ValidDisk.l0])
     | succ k2 =>
      have H := HA.out
      clear HA
      simp only [spec_ValidDisk.l0] at H
      by_cases c15 : x4_2 < (l0_1.length : Int)
      ·rw [if_pos c15] at H
       have c15b0 : decide (x4_2 < (l0_1.length : Int)) = true := decide_eq_true c15
       clear c15
       by_cases c16 : 0 ≤ x4_2
       ·rw [if_pos c16] at H
        have c16b0 : decide (0 ≤ x4_2) = true := decide_eq_true c16
        clear c16
        by_cases c17 : ((rd_T45 l0_1 x4_2).f0) < 0
        ·rw [if_pos c17] at H
         have c17b0 : decide (((rd_T45 l0_1 x4_2).f0) < 0) = true := decide_eq_true c17
         clear c17
         obtain rfl := Option.some.inj H
         have zdb : wr.cell? ⟨zH, 0, none⟩ = some (.slice A0_0 l0_0.length c0_0) := (zb zG.out 0).trans rfl
         have zeb : wr.cell? ⟨zH, 1, none⟩ = some (.slice A0_1 l0_1.length c0_1) := (zb zG.out 1).trans rfl
         have zfb := zd zG.out 0
         have zgb := zd zG.out 1
         have p105 : 0 ≤ (x4_2 : Int) := of_decide_eq_true (by first | (with_reducible assumption) | assumption)
         have q105 : x4_2 < (l0_1.length : Int) := of_decide_eq_true (by first | (with_reducible assumption) | assumption)
         obtain ⟨ad105, A105_1, c105_1, e105, hx105_0, hx105_1, hl105_1, hi105_1⟩ := at_T45 HR0_1.out x4_2 p105 q105
         cases e105
         replace hx105_0 := zn HB.out hx105_0
         replace hx105_1 := zn HB.out hx105_1
         have HR105_1 := Aside0.mk hi105_1
         have HC105_1 := Aside0.mk hl105_1
         clear hi105_1 hl105_1
         replace p105 := eq_true p105
         replace q105 := eq_true q105
         go_wp2
         go_ret
         exact ⟨by first | rfl | (simp [errW_none, errW_some] <;> rfl) | (simp [*, errW_none, errW_some] <;> rfl), by repeat (first | (with_reducible first | exact HB.out | apply zf | apply ze | apply zi | refine zc ?_ zI.out) | exact HB.out)⟩
        ·rw [if_neg c17] at H
         have c17b0 : decide (((rd_T45 l0_1 x4_2).f0) < 0) = false := decide_eq_false c17
         clear c17
         by_cases c19 : ((rd_T45 l0_1 x4_2).f0) ≥ t104
         ·rw [if_pos c19] at H
          have c19b0 : decide (t104 ≤ ((rd_T45 l0_1 x4_2).f0)) = true := decide_eq_true c19
          clear c19
          obtain rfl := Option.some.inj H
          have zhb : wr.cell? ⟨zH, 0, none⟩ = some (.slice A0_0 l0_0.length c0_0) := (zb zG.out 0).trans rfl
          have zib : wr.cell? ⟨zH, 1, none⟩ = some (.slice A0_1 l0_1.length c0_1) := (zb zG.out 1).trans rfl
          have zjb := zd zG.out 0
          have zkb := zd zG.out 1
          have p105 : 0 ≤ (x4_2 : Int) := of_decide_eq_true (by first | (with_reducible assumption) | assumption)
          have q105 : x4_2 < (l0_1.length : Int) := of_decide_eq_true (by first | (with_reducible assumption) | assumption)
          obtain ⟨ad105, A105_1, c105_1, e105, hx105_0, hx105_1, hl105_1, hi105_1⟩ := at_T45 HR0_1.out x4_2 p105 q105
          cases e105
          replace hx105_0 := zn HB.out hx105_0
          replace hx105_1 := zn HB.out hx105_1
          have HR105_1 := Aside0.mk hi105_1
          have HC105_1 := Aside0.mk hl105_1
          clear hi105_1 hl105_1
          replace p105 := eq_true p105
          replace q105 := eq_true q105
          have p106 : 0 ≤ (x4_2 : Int) := of_decide_eq_true (by first | (with_reducible assumption) | assumption)
          have q106 : x4_2 < (l0_1.length : Int) := of_decide_eq_true (by first | (with_reducible assumption) | assumption)
          obtain ⟨ad106, A106_1, c106_1, e106, hx106_0, hx106_1, hl106_1, hi106_1⟩ := at_T45 HR0_1.out x4_2 p106 q106
          obtain rfl : ad105 = ad106 := (by injection e106)
          replace hx106_0 := zn HB.out hx106_0
          replace hx106_1 := zn HB.out hx106_1
          have HR106_1 := Aside0.mk hi106_1
          have HC106_1 := Aside0.mk hl106_1
          clear hi106_1 hl106_1
          replace p106 := eq_true p106
          replace q106 := eq_true q106
          have ea_ := Option.some.inj (hx105_1.symm.trans hx106_1)
          injection ea_ with ea_ en_ ec_
          subst ea_
          subst ec_
          clear en_
          go_wp2
          go_ret
          exact ⟨by first | rfl | (simp [errW_none, errW_some] <;> rfl) | (simp [*, errW_none, errW_some] <;> rfl), by repeat (first | (with_reducible first | exact HB.out | apply zf | apply ze | apply zi | refine zc ?_ zI.out) | exact HB.out)⟩
         ·rw [if_neg c19] at H
          have c19b0 : decide (t104 ≤ ((rd_T45 l0_1 x4_2).f0)) = false := decide_eq_false c19
          clear c19
          by_cases c21 : (((rd_T45 l0_1 x4_2).f1).length : Int) = 64
          ·rw [if_pos c21] at H
           have c21b0 : ((((rd_T45 l0_1 x4_2).f1).length : Int) == 64) = true := beq_iff_eq.mpr c21
           have c21b1 : ((((rd_T45 l0_1 x4_2).f1).length : Int) != 64) = false := bne_eq_false_iff_eq.mpr c21
           clear c21
           have H' := Aside0.mk H
           clear H
           have zlb : wr.cell? ⟨zH, 0, none⟩ = some (.slice A0_0 l0_0.length c0_0) := (zb zG.out 0).trans rfl
           have zmb : wr.cell? ⟨zH, 1, none⟩ = some (.slice A0_1 l0_1.length c0_1) := (zb zG.out 1).trans rfl
           have znb := zd zG.out 0
           have zob := zd zG.out 1
           have p105 : 0 ≤ (x4_2 : Int) := of_decide_eq_true (by first | (with_reducible assumption) | assumption)
           have q105 : x4_2 < (l0_1.length : Int) := of_decide_eq_true (by first | (with_reducible assumption) | assumption)
           obtain ⟨ad105, A105_1, c105_1, e105, hx105_0, hx105_1, hl105_1, hi105_1⟩ := at_T45 HR0_1.out x4_2 p105 q105
           cases e105
           replace hx105_0 := zn HB.out hx105_0
           replace hx105_1 := zn HB.out hx105_1
           have HR105_1 := Aside0.mk hi105_1
           have HC105_1 := Aside0.mk hl105_1
           clear hi105_1 hl105_1
           replace p105 := eq_true p105
           replace q105 := eq_true q105
           have p106 : 0 ≤ (x4_2 : Int) := of_decide_eq_true (by first | (with_reducible assumption) | assumption)
           have q106 : x4_2 < (l0_1.length : Int) := of_decide_eq_true (by first | (with_reducible assumption) | assumption)
           obtain ⟨ad106, A106_1, c106_1, e106, hx106_0, hx106_1, hl106_1, hi106_1⟩ := at_T45 HR0_1.out x4_2 p106 q106
           obtain rfl : ad105 = ad106 := (by injection e106)
           replace hx106_0 := zn HB.out hx106_0
           replace hx106_1 := zn HB.out hx106_1
           have HR106_1 := Aside0.mk hi106_1
           have HC106_1 := Aside0.mk hl106_1
           clear hi106_1 hl106_1
           replace p106 := eq_true p106
           replace q106 := eq_true q106
           have ea_ := Option.some.inj (hx105_1.symm.trans hx106_1)
           injection ea_ with ea_ en_ ec_
           subst ea_
           subst ec_
           clear en_
           have p107 : 0 ≤ (x4_2 : Int) := of_decide_eq_true (by first | (with_reducible assumption) | assumption)
           have q107 : x4_2 < (l0_1.length : Int) := of_decide_eq_true (by first | (with_reducible assumption) | assumption)
           obtain ⟨ad107, A107_1, c107_1, e107, hx107_0, hx107_1, hl107_1, hi107_1⟩ := at_T45 HR0_1.out x4_2 p107 q107
           obtain rfl : ad105 = ad107 := (by injection e107)
           replace hx107_0 := zn HB.out hx107_0
           replace hx107_1 := zn HB.out hx107_1
           have HR107_1 := Aside0.mk hi107_1
           have HC107_1 := Aside0.mk hl107_1
           clear hi107_1 hl107_1
           replace p107 := eq_true p107
           replace q107 := eq_true q107
           have ea_ := Option.some.inj (hx105_1.symm.trans hx107_1)
           injection ea_ with ea_ en_ ec_
           subst ea_
           subst ec_
           clear en_
           go_wp2
           go_roundg k2
           case measure => have := HJ2.out; have := HK2.out; omega
           case rel => exact ⟨(wrap64 (x4_2 + 1)), (by first | rfl | (simp; done) | (simp [*]; done)), H', ⟨by have := HJ2.out; have := HK2.out; omega⟩, ⟨BL zG.out⟩, ⟨by repeat (first | (with_reducible first | exact HB.out | apply zf | apply ze | apply zi | refine zc ?_ zI.out) | exact HB.out)⟩⟩
          ·rw [if_neg c21] at H
           have c21b0 : ((((rd_T45 l0_1 x4_2).f1).length : Int) == 64) = false := beq_eq_false_iff_ne.mpr c21
           have c21b1 : ((((rd_T45 l0_1 x4_2).f1).length : Int) != 64) = true := bne_iff_ne.mpr c21
           obtain rfl := Option.some.inj H
           have zpb : wr.cell? ⟨zH, 0, none⟩ = some (.slice A0_0 l0_0.length c0_0) := (zb zG.out 0).trans rfl
           have zqb : wr.cell? ⟨zH, 1, none⟩ = some (.slice A0_1 l0_1.length c0_1) := (zb zG.out 1).trans rfl
           have zrb := zd zG.out 0
           have zsb := zd zG.out 1
           have p105 : 0 ≤ (x4_2 : Int) := of_decide_eq_true (by first | (with_reducible assumption) | assumption)
           have q105 : x4_2 < (l0_1.length : Int) := of_decide_eq_true (by first | (with_reducible assumption) | assumption)
           obtain ⟨ad105, A105_1, c105_1, e105, hx105_0, hx105_1, hl105_1, hi105_1⟩ := at_T45 HR0_1.out x4_2 p105 q105
           cases e105
           replace hx105_0 := zn HB.out hx105_0
           replace hx105_1 := zn HB.out hx105_1
           have HR105_1 := Aside0.mk hi105_1
           have HC105_1 := Aside0.mk hl105_1
           clear hi105_1 hl105_1
           replace p105 := eq_true p105
           replace q105 := eq_true q105
           have p106 : 0 ≤ (x4_2 : Int) := of_decide_eq_true (by first | (with_reducible assumption) | assumption)
           have q106 : x4_2 < (l0_1.length : Int) := of_decide_eq_true (by first | (with_reducible assumption) | assumption)
           obtain ⟨ad106, A106_1, c106_1, e106, hx106_0, hx106_1, hl106_1, hi106_1⟩ := at_T45 HR0_1.out x4_2 p106 q106
           obtain rfl : ad105 = ad106 := (by injection e106)
           replace hx106_0 := zn HB.out hx106_0
           replace hx106_1 := zn HB.out hx106_1
           have HR106_1 := Aside0.mk hi106_1
           have HC106_1 := Aside0.mk hl106_1
           clear hi106_1 hl106_1
           replace p106 := eq_true p106
           replace q106 := eq_true q106
           have ea_ := Option.some.inj (hx105_1.symm.trans hx106_1)
           injection ea_ with ea_ en_ ec_
           subst ea_
           subst ec_
           clear en_
           have p107 : 0 ≤ (x4_2 : Int) := of_decide_eq_true (by first | (with_reducible assumption) | assumption)
           have q107 : x4_2 < (l0_1.length : Int) := of_decide_eq_true (by first | (with_reducible assumption) | assumption)
           obtain ⟨ad107, A107_1, c107_1, e107, hx107_0, hx107_1, hl107_1, hi107_1⟩ := at_T45 HR0_1.out x4_2 p107 q107
           obtain rfl : ad105 = ad107 := (by injection e107)
           replace hx107_0 := zn HB.out hx107_0
           replace hx107_1 := zn HB.out hx107_1
           have HR107_1 := Aside0.mk hi107_1
           have HC107_1 := Aside0.mk hl107_1
           clear hi107_1 hl107_1
           replace p107 := eq_true p107
           replace q107 := eq_true q107
           have ea_ := Option.some.inj (hx105_1.symm.trans hx107_1)
           injection ea_ with ea_ en_ ec_
           subst ea_
           subst ec_
           clear en_
           go_wp2
           go_ret
           exact ⟨by first | rfl | (simp [errW_none, errW_some] <;> rfl) | (simp [*, errW_none, errW_some] <;> rfl), by repeat (first | (with_reducible first | exact HB.out | apply zf | apply ze | apply zi | refine zc ?_ zI.out) | exact HB.out)⟩
       ·rw [if_neg c16] at H
        exact absurd H (by simp)
      ·rw [if_neg c15] at H
       have c15b0 : decide (x4_2 < (l0_1.length : Int)) = false := decide_eq_false c15
       clear c15
       obtain rfl := Option.some.inj H
       have ztb : wr.cell? ⟨zH, 0, none⟩ = some (.slice A0_0 l0_0.length c0_0) := (zb zG.out 0).trans rfl
       have zub : wr.cell? ⟨zH, 1, none⟩ = some (.slice A0_1 l0_1.length c0_1) := (zb zG.out 1).trans rfl
       have zvb := zd zG.out 0
       have zwb := zd zG.out 1
       go_wp2
       go_ret
       exact ⟨by first | rfl | (simp [errW_none, errW_some] <;> rfl) | (simp [*, errW_none, errW_some] <;> rfl), by repeat (first | (with_reducible first | exact HB.out | apply zf | apply ze | apply zi | refine zc ?_ zI.out) | exact HB.out)⟩

def spec_l1Copy.l0 : Nat → List Int → List Int → Int → Option (List Int)
 | 0, _, _, _ => none
 | k + 1, x0, x3, x4 => if x4 < (x0.length : Int) then (if 0 ≤ x4 then (if x3.length < 140737488355328 then (spec_l1Copy.l0 k x0 (x3 ++ [rd x0 x4]) (wrap64 (x4 + 1))) else (none)) else (none)) else (some x3)
def spec_l1Copy.f (k : Nat) (l0 : List Int) : Option (List Int) := spec_l1Copy.l0 k l0 (([] : List Int)) 0
theorem spec_l1Copy.mono_l : ∀ k, (∀ y0 y1 y2, LeO (spec_l1Copy.l0 k y0 y1 y2) (spec_l1Copy.l0 (k + 1) y0 y1 y2))
 | 0 => fun _ _ _ r h => by simp [spec_l1Copy.l0] at h
 | k + 1 => by
  have ih0 := spec_l1Copy.mono_l k
  ·intro y0 y1 y2
   unfold spec_l1Copy.l0
   repeat' first
   | (with_reducible exact ih0 _ _ _)
   | (with_reducible exact LeO.refl _)
   | (with_reducible exact LeO.none _)
   | (with_reducible refine LeO.ite ?_ ?_)
   | (with_reducible refine LeO.bind ?_ (fun _ => ?_))
   | exact ih0 _ _ _
   | exact LeO.none _
   | refine LeO.ite ?_ ?_
   | refine LeO.bind ?_ (fun _ => ?_)
theorem spec_l1Copy.mono : ∀ a0 k, LeO (spec_l1Copy.f k a0) (spec_l1Copy.f (k + 1) a0) := by
 intro a0 k
 have ih0 := spec_l1Copy.mono_l k
 unfold spec_l1Copy.f
 repeat' first
   | (with_reducible exact ih0 _ _ _)
   | (with_reducible exact LeO.refl _)
   | (with_reducible exact LeO.none _)
   | (with_reducible refine LeO.ite ?_ ?_)
   | (with_reducible refine LeO.bind ?_ (fun _ => ?_))
   | exact ih0 _ _ _
   | exact LeO.none _
   | refine LeO.ite ?_ ?_
   | refine LeO.bind ?_ (fun _ => ?_)
set_option maxHeartbeats 8000000 in
set_option maxRecDepth 100000 in
theorem spec_l1Copy.calls (k : Nat) (A0 : Option Addr) (c0 : Nat) (l0 : List Int) (r : List Int) (w : World) (hr0 : Kd.C (Kd.int .u8) w A0 l0.length l0) (hc0 : l0.length ≤ c0) (h : spec_l1Copy.f k l0 = some r) :
  Calls Try.prog 46 #[.slice A0 l0.length c0] w fun e w' => ∃ v0_ : Value, e = .returned (v0_) ∧ Kd.R (Kd.int .u8) 5 w' w.heap.size (fun _ => True) v0_ r ∧ Below w.heap.size w w' := by
 have HR0 := Aside0.mk hr0
 have HC0 := Aside0.mk hc0
 clear hr0 hc0
 have HB := Aside0.mk (Below.refl w.heap.size w)
 have H : (spec_l1Copy.l0 k l0 (([] : List Int)) 0) = some r := h
 clear h
 obtain ⟨y108, hy108⟩ : ∃ y_ : List Int, y_ = (([] : List Int)) := ⟨_, rfl⟩
 replace H : (spec_l1Copy.l0 k l0 y108 0) = some r := by first | (rw [hy108]; with_reducible exact H) | (have H2_ := (Option.bind_some _ _).symm.trans H; rw [hy108]; with_reducible exact H2_) | (have H2_ := (Option.bind_some _ _).symm.trans H; with_reducible exact H2_) | with_reducible exact H | (rw [hy108]; exact H) | exact H
 have Ny108 := Aside0.mk hy108
 clear hy108
 have H' := Aside0.mk H
 clear H
 go_enter Try.func46, Try.ntmps46
 go_wp2_with (first | ((with_reducible refine zt (N := 5) rfl ?_); refine Kd.R_lit (Kd.int .u8) _ 5 ?hg (N := 5) ?hd (xs := ([] : List Int)) (inner := []) (ok := fun _ => True) (okp := fun _ => True) ?hr ?hp (fun _ hk => hk) trivial (Below.refl _ _) (Nat.le_refl _) (by simp) ?_; (case hd => rfl); (case hg => rfl); (case hr => first | (go_simp; done) | (go_simp; rfl)); (case hp => exact (Reps.none _ _)); intro v109 w2 zG hb hg_ hnew_; clear hg_ hnew_; (first | rw [← Ny108.out] at zG | (simp only [Int.reduceToNat] at zG; rw [← Ny108.out] at zG)); have n0_ := Aside0.mk (Kd.R_lower zG (zm (by exact bl HB.out))); have n1_ := Aside0.mk (zk (by exact bl HB.out) hb); clear HB; have zI := n0_; have HB := n1_; clear n0_ n1_; clear hb zG))
 go_loopg [3, 4] k (fun kq v3 v4 w' => ∃ (x3_1 : List Int) (x4_1 : Int), v4 = .int .i64 x4_1 ∧ Aside0 (spec_l1Copy.l0 kq l0 x3_1 x4_1 = some r) ∧ Aside0 (kq ≤ k) ∧ Aside0 (Kd.R (Kd.int .u8) 5 w' w.heap.size (fun _ => True) v3 x3_1) ∧ Aside0 (Below w.heap.size w w'))
 case atStart => exact ⟨(y108), (0), (by first | rfl | (simp; done) | (simp [*]; done)), H', ⟨Nat.le_refl _⟩, ⟨RL zI.out⟩, ⟨by repeat (first | (with_reducible first | exact HB.out | apply zf | apply ze | apply zi) | exact HB.out)⟩⟩
 case round =>
  clear H'
  try clear p2
  obtain ⟨x3_1, x4_1, rfl, HA, HK1, zH, HB⟩ := hrel
  cases gk with
  | zero => exact absurd HA.out (by simp [spec_l1Copy.l0])
  | succ k1 =>
   have H := HA.out
   clear HA
   simp only [spec_l1Copy.l0] at H
   by_cases c4 : x4_1 < (l0.length : Int)
   ·rw [if_pos c4] at H
    have c4b0 : decide (x4_1 < (l0.length : Int)) = true := decide_eq_true c4
    clear c4
    by_cases c5 : 0 ≤ x4_1
    ·rw [if_pos c5] at H
     have c5b0 : decide (0 ≤ x4_1) = true := decide_eq_true c5
     clear c5
     by_cases c6 : x3_1.length < 140737488355328
     ·rw [if_pos c6] at H
      have LMc6 := Aside0.mk c6
      clear c6
      obtain ⟨y112, hy112⟩ : ∃ y_ : List Int, y_ = (x3_1 ++ [rd l0 x4_1]) := ⟨_, rfl⟩
      replace H : (spec_l1Copy.l0 k1 l0 y112 (wrap64 (x4_1 + 1))) = some r := by first | (rw [hy112]; with_reducible exact H) | (have H2_ := (Option.bind_some _ _).symm.trans H; rw [hy112]; with_reducible exact H2_) | (have H2_ := (Option.bind_some _ _).symm.trans H; with_reducible exact H2_) | with_reducible exact H | (rw [hy112]; exact H) | exact H
      have Ny112 := Aside0.mk hy112
      clear hy112
      have H' := Aside0.mk H
      clear H
      have p111 : 0 ≤ (x4_1 : Int) := of_decide_eq_true (by first | (with_reducible assumption) | assumption)
      have q111 : x4_1 < (l0.length : Int) := of_decide_eq_true (by first | (with_reducible assumption) | assumption)
      obtain ⟨ad111, e111, hx111_0⟩ := Kd.at_int HR0.out x4_1 p111 q111
      cases e111
      replace hx111_0 := zn HB.out hx111_0
      replace p111 := eq_true p111
      replace q111 := eq_true q111
      go_wp2_with (first | ((with_reducible refine gate_builtin (b := .append) (xs := #[.tmp 12, .tmp 17]) rfl ?_); at_builtin; refine Kd.R_append (Kd.int .u8) (w0 := w) w.heap.size rfl (.tmp 12) (.tmp 17) 22 5 (.int .u8 0) 1 rfl Try.underlying22 info5 rfl (by decide) (by omega) u3 x3_1 (rd l0 x4_1) [.int .u8 (rd l0 x4_1)] (fun _ => True) (fun _ => False) rfl rfl ?aP (fun _ hk => hk.elim) ?aF ?aO ?aB ?aS ?aL ?_; (case aP => exact rfl); (case aB => exact (by exact bl HB.out)); (case aF => exact (fun _ _ => trivial)); (case aO => exact (RL zH.out)); (case aS => exact (zm (by exact bl HB.out))); (case aL => have := LMc6.out; omega); intro v113 w7 ho hb hg hat; rw [← Ny112.out] at ho; have n0_ := Aside0.mk (hb); have n1_ := Aside0.mk (ho); clear HB; clear zH; have HB := n0_; have zJ := n1_; clear n0_ n1_; clear ho hb hg hat))
      go_roundg k1
      case measure => have := HK1.out; omega
      case rel => exact ⟨(y112), (wrap64 (x4_1 + 1)), (by first | rfl | (simp; done) | (simp [*]; done)), H', ⟨by have := HK1.out; omega⟩, ⟨RL zJ.out⟩, ⟨by repeat (first | (with_reducible first | exact HB.out | apply zf | apply ze | apply zi) | exact HB.out)⟩⟩
     ·rw [if_neg c6] at H
      exact absurd H (by simp)
    ·rw [if_neg c5] at H
     exact absurd H (by simp)
   ·rw [if_neg c4] at H
    have c4b0 : decide (x4_1 < (l0.length : Int)) = false := decide_eq_false c4
    clear c4
    obtain rfl := Option.some.inj H
    go_wp2
    go_ret
    exact ⟨_, by first | rfl | (simp [errW_none, errW_some] <;> rfl) | (simp [*, errW_none, errW_some] <;> rfl), RL zH.out, by repeat (first | (with_reducible first | exact HB.out | apply zf | apply ze | apply zi) | exact HB.out)⟩

end Go.Proofs.Ytejecjjimggjeaa.GFnSync
