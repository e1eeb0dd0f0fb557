/- Written by give.py, a program of this session, that runs the kit's print and lays contracts proved by hand beside it. -/
import Derived.Test.YtejecjjimggjeaaGFnSyncx0
import Derived.Test.YtejecjjimggjeaaGFnSyncx2
namespace Go.Proofs.Ytejecjjimggjeaa.GFnSync
open Go.RowKit Go.Proofs.YtejecjjimggjeaaW.PrintWords Go.Proofs.YtejecjjimggjeaaW.PrintLast Go.Proofs.YtejecjjimggjeaaW.PrintMore
attribute [local go_sem] max2_int min2_int max_two min_two max_three min_three max_four min_four
attribute [local go_sem high] Go.Proofs.YtejecjjimggjeaaH.str_leq Go.Proofs.YtejecjjimggjeaaH.str_geq Go.Proofs.YtejecjjimggjeaaH.str_gtr   -- for this text's walks alone
set_option linter.unusedVariables false
set_option linter.unusedSimpArgs false

def spec_l1CopyDisk.l0 : Nat → Int → List Int → List (S45) → List Int → List (S45) → Option (List Int × (List (S45)))
 | 0, _, _, _, _, _ => none
 | k + 1, x4, x116000, x116001, x121000, x121001 => if x4 < (x116001.length : Int) then (if 0 ≤ x4 then ((spec_l1Copy.f k ((rd_T45 x116001 x4).f1)).bind fun t123 => (if x121001.length < 4398046511104 then (spec_l1CopyDisk.l0 k (wrap64 (x4 + 1)) x116000 x116001 x121000 (x121001 ++ [(⟨(rd_T45 x116001 x4).f0, t123⟩ : S45)])) else (none))) else (none)) else (some (x121000, x121001))
def spec_l1CopyDisk.f (k : Nat) (l0_0 : List Int) (l0_1 : List (S45)) : Option (List Int × (List (S45))) := (spec_l1Copy.f k l0_0).bind fun t117 => (spec_l1CopyDisk.l0 k 0 l0_0 l0_1 t117 ([] : List (S45)))
theorem spec_l1CopyDisk.mono_l : ∀ k, (∀ y0 y1 y2 y3 y4, LeO (spec_l1CopyDisk.l0 k y0 y1 y2 y3 y4) (spec_l1CopyDisk.l0 (k + 1) y0 y1 y2 y3 y4))
 | 0 => fun _ _ _ _ _ r h => by simp [spec_l1CopyDisk.l0] at h
 | k + 1 => by
  have ih0 := spec_l1CopyDisk.mono_l k
  ·intro y0 y1 y2 y3 y4
   unfold spec_l1CopyDisk.l0
   repeat' first
   | (with_reducible exact ih0 _ _ _ _ _)
   | (with_reducible exact spec_l1Copy.mono _ _)
   | (with_reducible exact LeO.refl _)
   | (with_reducible exact LeO.none _)
   | (with_reducible refine LeO.ite ?_ ?_)
   | (with_reducible refine LeO.bind ?_ (fun _ => ?_))
   | exact ih0 _ _ _ _ _
   | exact spec_l1Copy.mono _ _
   | exact LeO.none _
   | refine LeO.ite ?_ ?_
   | refine LeO.bind ?_ (fun _ => ?_)
theorem spec_l1CopyDisk.mono : ∀ a0 a1 k, LeO (spec_l1CopyDisk.f k a0 a1) (spec_l1CopyDisk.f (k + 1) a0 a1) := by
 intro a0 a1 k
 have ih0 := spec_l1CopyDisk.mono_l k
 unfold spec_l1CopyDisk.f
 repeat' first
   | (with_reducible exact ih0 _ _ _ _ _)
   | (with_reducible exact spec_l1Copy.mono _ _)
   | (with_reducible exact LeO.refl _)
   | (with_reducible exact LeO.none _)
   | (with_reducible refine LeO.ite ?_ ?_)
   | (with_reducible refine LeO.bind ?_ (fun _ => ?_))
   | exact ih0 _ _ _ _ _
   | exact spec_l1Copy.mono _ _
   | exact LeO.none _
   | refine LeO.ite ?_ ?_
   | refine LeO.bind ?_ (fun _ => ?_)
def spec_l1CopyDisk.T5 : Bool × List (List Nat × List Nat) := (true, [([], []), ([0], [0]), ([], []), ([2], [2]), ([], []), ([3, 4], [3, 4]), ([5], [5]), ([6], [6]), ([], []), ([8], [8]), ([], []), ([9, 10], [9, 10]), ([11], [11]), ([12], [12]), ([13], [13]), ([7, 14], [7, 14]), ([15], [15]), ([1, 16, 14], [1, 16]), ([0, 1, 2, 3, 4, 5, 6, 7, 8, 9, 10, 11, 12, 13, 14, 15, 16, 17], []), ([18, 17, 17, 0, 1, 2, 3, 4, 5, 6, 7, 8, 9, 10, 11, 12, 13, 14, 15, 16, 17], [17, 18])])
def spec_l1CopyDisk.B5 : List Nat := [0, 1, 0, 4, 0, 28, 60, 124, 0, 256, 0, 1792, 3840, 7936, 16128, 32764, 65532, 131071, 262143, 524287]
theorem spec_l1CopyDisk.tab5 : rtab .any (opsOf Try.f45 5) = spec_l1CopyDisk.T5 := by kernel_rfl
theorem spec_l1CopyDisk.bits5 : waitsOk spec_l1CopyDisk.T5.2 spec_l1CopyDisk.B5 = true := by kernel_rfl
set_option maxHeartbeats 8000000 in
set_option maxRecDepth 100000 in
theorem spec_l1CopyDisk.calls (k : Nat) (A0_0 : Option Addr) (c0_0 : Nat) (l0_0 : List Int) (A0_1 : Option Addr) (c0_1 : Nat) (l0_1 : List (S45)) (r1 : List Int) (r2 : List (S45)) (w : World) (hr0_0 : Kd.C (Kd.int .u8) w A0_0 l0_0.length l0_0) (hc0_0 : l0_0.length ≤ c0_0) (hr0_1 : Kd.C k45 w A0_1 l0_1.length l0_1) (hc0_1 : l0_1.length ≤ c0_1) (h : spec_l1CopyDisk.f k l0_0 l0_1 = some (r1, r2)) :
  Calls Try.prog 45 #[.agg #[.slice A0_0 l0_0.length c0_0, .slice A0_1 l0_1.length c0_1]] w fun e w' => ∃ v0_ v1_ : Value, e = .returned (.agg #[v0_, v1_]) ∧ Kd.R (Kd.int .u8) 5 w' w.heap.size (fun _ => True) v0_ r1 ∧ Kd.S k45 45 w' w.heap.size (fun k_ => some k_ ≠ (v0_ : Value).ownBlock) v1_ r2 ∧ Below w.heap.size w w' := by
 have hu35 := Try.underlying35
 have hu45 := Try.underlying45
 have HR0_0 := Aside0.mk hr0_0
 have HC0_0 := Aside0.mk hc0_0
 clear hr0_0 hc0_0
 have HR0_1 := Aside0.mk hr0_1
 have HC0_1 := Aside0.mk hc0_1
 clear hr0_1 hc0_1
 have HB := Aside0.mk (Below.refl w.heap.size w)
 have H : ((spec_l1Copy.f k l0_0).bind fun t117 => (spec_l1CopyDisk.l0 k 0 l0_0 l0_1 t117 ([] : List (S45)))) = some (r1, r2) := h
 clear h
 replace H := Option.bind_eq_some_iff.mp H
 obtain ⟨t117, A20, H⟩ := H
 replace H : (spec_l1CopyDisk.l0 k 0 l0_0 l0_1 t117 ([] : List (S45))) = some (r1, r2) := H
 have A2 := Aside0.mk A20
 clear A20
 have H' := Aside0.mk H
 clear H
 go_enter Try.func45, Try.ntmps45
 go_wp2_with (first | ((with_reducible refine zt (N := 1) rfl ?_); refine zF ?hg (N := 1) ?hd (cs := #[.slice A0_0 l0_0.length c0_0, .slice A0_1 l0_1.length c0_1]) (t := 35) ?hr ?_; (case hd => rfl); (case hg => rfl); (case hr => first | (go_simp; done) | (go_simp; rfl)); intro zL hg w3 hbox hb; have n0_ := Aside0.mk (zk (by exact bl HB.out) hb); have n1_ := Aside0.mk (hbox); have n2_ := Aside0.mk ((by rw [hg]; exact (zm (by exact bl HB.out)) : w.heap.size ≤ zL)); have n3_ := Aside0.mk ((by rw [hg]; exact (zm (by exact bl HB.out)) : w.heap.size ≤ zL)); clear HB; have HB := n0_; have zG := n1_; have GW115 := n2_; have zR := n3_; clear n0_ n1_ n2_ n3_; clear hb hbox hg) | ((with_reducible refine zt (N := 2) rfl ?_); refine zF ?hg (N := 2) ?hd (cs := #[.slice none 0 0, .slice none 0 0]) (t := 35) ?hr ?_; (case hd => rfl); (case hg => rfl); (case hr => first | (go_simp; done) | (go_simp; rfl)); intro zM hg w4 hbox hb; have n0_ := Aside0.mk (zl (g := zL) (o := .cells #[.slice A0_0 l0_0.length c0_0, .slice A0_1 l0_1.length c0_1] 35 (0, 0)) (BL zG.out) hb); have n1_ := Aside0.mk (zk (by exact bl HB.out) hb); have n2_ := Aside0.mk (hbox); have n3_ := Aside0.mk ((by rw [hg]; exact (zm (by exact bl HB.out)) : w.heap.size ≤ zM)); have n4_ := Aside0.mk ((by rw [hg]; exact (zm (by exact bl HB.out)) : w.heap.size ≤ zM)); have n5_ := Aside0.mk ((by rw [hg]; exact Nat.ne_of_lt (zr (g := zL) (o := .cells #[.slice A0_0 l0_0.length c0_0, .slice A0_1 l0_1.length c0_1] 35 (0, 0)) (BL zG.out)) : zL ≠ zM)); have n6_ := Aside0.mk ((by rw [hg]; exact Nat.ne_of_gt (zr (g := zL) (o := .cells #[.slice A0_0 l0_0.length c0_0, .slice A0_1 l0_1.length c0_1] 35 (0, 0)) (BL zG.out)) : zM ≠ zL)); clear zG; clear HB; have zG := n0_; have HB := n1_; have zJ := n2_; have GW116 := n3_; have zS := n4_; have zU := n5_; have zV := n6_; clear n0_ n1_ n2_ n3_ n4_ n5_ n6_; clear hb hbox hg; have zNb := zU.out; have zOb := zV.out; have zfb : w4.cell? ⟨zL, 0, none⟩ = some (.slice A0_0 l0_0.length c0_0) := (zb zG.out 0).trans rfl; have zgb : w4.cell? ⟨zL, 1, none⟩ = some (.slice A0_1 l0_1.length c0_1) := (zb zG.out 1).trans rfl; have zhb := zd zG.out 0; have zib := zd zG.out 1) | ((with_reducible refine zo (f := 46) rfl ?_); refine zC (some 7) rfl rfl Try.func46 (by kernel_rfl) rfl #[.slice A0_0 l0_0.length c0_0] rfl (by (try simp only [List.map_toArray, List.map_cons, List.map_nil]); first | done | rfl) ?_; (with_reducible refine (spec_l1Copy.calls k _ _ l0_0 t117 _ ?side1 ?side2 A2.out).mono ?_); (case side1 => repeat (first | exact (Kd.C_below HR0_0.out HB.out) | (with_reducible refine Kd.C_alloc ?_ _) | (with_reducible refine Kd.C_drewN ?_ _) | (with_reducible refine Kd.C_drew ?_))); (case side2 => exact HC0_0.out); rintro e w7 ⟨v118, rfl, zZ, hb⟩; refine ⟨_, rfl, ?_⟩; have n0_ := Aside0.mk (Kd.R_lower zZ (zm (by exact bl HB.out))); have n1_ := Aside0.mk (zl (g := zL) (o := .cells #[.slice A0_0 l0_0.length c0_0, .slice A0_1 l0_1.length c0_1] 35 (0, 0)) (BL zG.out) hb); have n2_ := Aside0.mk (zl (g := zM) (o := .cells #[.slice none 0 0, .slice none 0 0] 35 (0, 0)) (BL zJ.out) hb); have n3_ := Aside0.mk (zk (by exact bl HB.out) hb); clear zG; clear zJ; clear HB; have zX := n0_; have zG := n1_; have zJ := n2_; have HB := n3_; clear n0_ n1_ n2_ n3_; (try clear hb); (try clear hb2); (try clear hk); (try clear hi); (try clear zZ); obtain ⟨Ao8, co8, eo8⟩ := Kd.R_slice zX.out; subst eo8) | ((with_reducible refine zt (N := 3) rfl ?_); refine zF ?hg (N := 3) ?hd (cs := #[.slice none 0 0, .slice none 0 0]) (t := 35) ?hr ?_; (case hd => rfl); (case hg => rfl); (case hr => first | (go_simp; done) | (go_simp; rfl)); intro zN hg w9 hbox hb; have n0_ := Aside0.mk (Kd.R_below (RL zX.out) hb); have n1_ := Aside0.mk (zl (g := zL) (o := .cells #[.slice A0_0 l0_0.length c0_0, .slice A0_1 l0_1.length c0_1] 35 (0, 0)) (BL zG.out) hb); have n2_ := Aside0.mk (zl (g := zM) (o := .cells #[.slice none 0 0, .slice none 0 0] 35 (0, 0)) (BL zJ.out) hb); have n3_ := Aside0.mk (zk (by exact bl HB.out) hb); have n4_ := Aside0.mk (hbox); have n5_ := Aside0.mk ((by rw [hg]; exact (zm (by exact bl HB.out)) : w.heap.size ≤ zN)); have n6_ := Aside0.mk ((by rw [hg]; exact (zm (by exact bl HB.out)) : w.heap.size ≤ zN)); have n7_ := Aside0.mk ((by rw [hg]; exact Nat.ne_of_lt (zr (g := zL) (o := .cells #[.slice A0_0 l0_0.length c0_0, .slice A0_1 l0_1.length c0_1] 35 (0, 0)) (BL zG.out)) : zL ≠ zN)); have n8_ := Aside0.mk ((by rw [hg]; exact Nat.ne_of_gt (zr (g := zL) (o := .cells #[.slice A0_0 l0_0.length c0_0, .slice A0_1 l0_1.length c0_1] 35 (0, 0)) (BL zG.out)) : zN ≠ zL)); have n9_ := Aside0.mk ((by rw [hg]; exact Nat.ne_of_lt (zr (g := zM) (o := .cells #[.slice none 0 0, .slice none 0 0] 35 (0, 0)) (BL zJ.out)) : zM ≠ zN)); have n10_ := Aside0.mk ((by rw [hg]; exact Nat.ne_of_gt (zr (g := zM) (o := .cells #[.slice none 0 0, .slice none 0 0] 35 (0, 0)) (BL zJ.out)) : zN ≠ zM)); clear zX; clear zG; clear zJ; clear HB; have zX := n0_; have zG := n1_; have zJ := n2_; have HB := n3_; have zH := n4_; have GW120 := n5_; have zT := n6_; have zO := n7_; have zQ := n8_; have zP := n9_; have zW := n10_; clear n0_ n1_ n2_ n3_ n4_ n5_ n6_ n7_ n8_ n9_ n10_; clear hb hbox hg; have zzb := zQ.out; have zAb := zO.out; have zBb := zW.out; have zCb := zP.out; have zbb : w9.cell? ⟨zN, 0, none⟩ = some (.slice none 0 0) := (zb zH.out 0).trans rfl; have zcb : w9.cell? ⟨zN, 1, none⟩ = some (.slice none 0 0) := (zb zH.out 1).trans rfl; have zdb := zd zH.out 0; have zeb := zd zH.out 1))
 go_loopg [4] k (fun kq v4 w' => ∃ (x4_1 : Int) (x121001_1 : List (S45)) (u121001 : Value), v4 = .int .i64 x4_1 ∧ Aside0 (spec_l1CopyDisk.l0 kq x4_1 l0_0 l0_1 t117 x121001_1 = some (r1, r2)) ∧ Aside0 (kq ≤ k) ∧ Aside0 (Kd.R (Kd.int .u8) 5 w' w.heap.size (fun _ => True) (.slice Ao8 t117.length co8) t117) ∧ Aside0 (Kd.S k45 45 w' w.heap.size (fun k_ => some k_ ≠ ((.slice Ao8 t117.length co8) : Value).ownBlock) u121001 x121001_1) ∧ Aside0 (w'.heap[zL]? = some (.cells #[(.slice A0_0 l0_0.length c0_0), (.slice A0_1 l0_1.length c0_1)] 35 (0, 0))) ∧ Aside0 (w'.heap[zM]? = some (.cells #[(.slice none 0 0), (.slice none 0 0)] 35 (0, 0))) ∧ Aside0 (w'.heap[zN]? = some (.cells #[(.slice Ao8 t117.length co8), u121001] 35 (0, 0))) ∧ Aside0 (Below w.heap.size w w'))
 case atStart => exact ⟨(0), (([] : List (S45))), (.slice none 0 0), (by first | rfl | (simp; done) | (simp [*]; done)), H', ⟨Nat.le_refl _⟩, ⟨RL (Kd.R_mono (Kd.R_far (p := ⟨zN, 1, none⟩) (Kd.R_far (p := ⟨zN, 0, none⟩) (Kd.R_types zX.out zH.out (by decide)) (fun _ hk => hk.2) (.slice Ao8 t117.length co8)) (fun _ hk => hk.2) (.slice none 0 0)) (fun _ hk => trivial))⟩, ⟨by first | exact Kd.S_nil _ _ _ _ _ | exact Kd.N_nil _ _ _ _ _ | exact Kd.V_nil _ _ _ _ _ | exact Kd.Q_nil _ _ _ _ _ | exact Kd.R_nil _ _ _ _ _⟩, ⟨by (with_reducible repeat (first | refine zj ?_ _ | refine zg ?_ | refine zh ?_ _)); refine zE ?_ zO.out _; (with_reducible repeat (first | refine zj ?_ _ | refine zg ?_ | refine zh ?_ _)); refine zE ?_ zO.out _; (with_reducible repeat (first | refine zj ?_ _ | refine zg ?_ | refine zh ?_ _)); exact zG.out⟩, ⟨by (with_reducible repeat (first | refine zj ?_ _ | refine zg ?_ | refine zh ?_ _)); refine zE ?_ zP.out _; (with_reducible repeat (first | refine zj ?_ _ | refine zg ?_ | refine zh ?_ _)); refine zE ?_ zP.out _; (with_reducible repeat (first | refine zj ?_ _ | refine zg ?_ | refine zh ?_ _)); exact zJ.out⟩, ⟨by (with_reducible repeat (first | refine zj ?_ _ | refine zg ?_ | refine zh ?_ _)); refine zz (cs := #[.slice Ao8 t117.length co8, .slice none 0 0]) ?_ 1 _ rfl; (with_reducible repeat (first | refine zj ?_ _ | refine zg ?_ | refine zh ?_ _)); refine zz (cs := #[.slice none 0 0, .slice none 0 0]) ?_ 0 _ rfl; (with_reducible repeat (first | refine zj ?_ _ | refine zg ?_ | refine zh ?_ _)); exact zH.out⟩, ⟨by repeat (first | (with_reducible first | exact HB.out | apply zf | apply ze | apply zi | refine zc ?_ zR.out | refine zc ?_ zS.out | refine zc ?_ zT.out) | exact HB.out)⟩⟩
 case round =>
  clear H'
  try clear c1
  try clear p2
  try clear c4
  try clear c5
  try clear c10
  try clear c11
  try clear zbb
  try clear zcb
  try clear zfb
  try clear zgb
  try clear zdb
  try clear zeb
  try clear zhb
  try clear zib
  obtain ⟨x4_1, x121001_1, u121001, rfl, HA, HK1, zK, zI, zG, zJ, zH, HB⟩ := hrel
  cases gk with
  | zero => exact absurd HA.out (by simp [spec_l1CopyDisk.l0])
  | succ k1 =>
   have H := HA.out
   clear HA
   simp only [spec_l1CopyDisk.l0] at H
   by_cases c13 : x4_1 < (l0_1.length : Int)
   ·rw [if_pos c13] at H
    have c13b0 : decide (x4_1 < (l0_1.length : Int)) = true := decide_eq_true c13
    clear c13
    by_cases c14 : 0 ≤ x4_1
    ·rw [if_pos c14] at H
     have c14b0 : decide (0 ≤ x4_1) = true := decide_eq_true c14
     clear c14
     replace H := Option.bind_eq_some_iff.mp H
     obtain ⟨t123, A150, H⟩ := H
     replace H : (if x121001_1.length < 4398046511104 then (spec_l1CopyDisk.l0 k1 (wrap64 (x4_1 + 1)) l0_0 l0_1 t117 (x121001_1 ++ [(⟨(rd_T45 l0_1 x4_1).f0, t123⟩ : S45)])) else (none)) = some (r1, r2) := H
     have A15 := Aside0.mk A150
     clear A150
     by_cases c16 : x121001_1.length < 4398046511104
     ·rw [if_pos c16] at H
      have LMc16 := Aside0.mk c16
      clear c16
      obtain ⟨y126, hy126⟩ : ∃ y_ : List (S45), y_ = (x121001_1 ++ [(⟨(rd_T45 l0_1 x4_1).f0, t123⟩ : S45)]) := ⟨_, rfl⟩
      replace H : (spec_l1CopyDisk.l0 k1 (wrap64 (x4_1 + 1)) l0_0 l0_1 t117 y126) = some (r1, r2) := by first | (rw [hy126]; with_reducible exact H) | (have H2_ := (Option.bind_some _ _).symm.trans H; rw [hy126]; with_reducible exact H2_) | (have H2_ := (Option.bind_some _ _).symm.trans H; with_reducible exact H2_) | with_reducible exact H | (rw [hy126]; exact H) | exact H
      have Ny126 := Aside0.mk hy126
      clear hy126
      have H' := Aside0.mk H
      clear H
      have zDb := zU.out
      have zEb := zV.out
      have zFb := zO.out
      have zGb := zQ.out
      have zjb : wr.cell? ⟨zL, 0, none⟩ = some (.slice A0_0 l0_0.length c0_0) := (zb zG.out 0).trans rfl
      have zkb : wr.cell? ⟨zL, 1, none⟩ = some (.slice A0_1 l0_1.length c0_1) := (zb zG.out 1).trans rfl
      have zlb := zd zG.out 0
      have zmb := zd zG.out 1
      try go_wp2
      have n0_ := Aside0.mk (Kd.R_drew zK.out)
      have n1_ := Aside0.mk (Kd.S_drew zI.out)
      have n2_ := Aside0.mk (zg zG.out)
      have n3_ := Aside0.mk (zg zJ.out)
      have n4_ := Aside0.mk (zg zH.out)
      have n5_ := Aside0.mk (zi HB.out)
      clear zK
      clear zI
      clear zG
      clear zJ
      clear zH
      clear HB
      have zK := n0_
      have zI := n1_
      have zG := n2_
      have zJ := n3_
      have zH := n4_
      have HB := n5_
      clear n0_ n1_ n2_ n3_ n4_ n5_
      have p121 : 0 ≤ (x4_1 : Int) := of_decide_eq_true (by first | (with_reducible assumption) | assumption)
      have q121 : x4_1 < (l0_1.length : Int) := of_decide_eq_true (by first | (with_reducible assumption) | assumption)
      obtain ⟨ad121, A121_1, c121_1, e121, hx121_0, hx121_1, hl121_1, hi121_1⟩ := at_T45 HR0_1.out x4_1 p121 q121
      have hw121_1 := hx121_1
      have hw121_0 := hx121_0
      cases e121
      replace hx121_0 := zn HB.out hx121_0
      replace hx121_1 := zn HB.out hx121_1
      have HR121_1 := Aside0.mk hi121_1
      have HC121_1 := Aside0.mk hl121_1
      clear hi121_1 hl121_1
      replace p121 := eq_true p121
      replace q121 := eq_true q121
      have p122 : 0 ≤ (x4_1 : Int) := of_decide_eq_true (by first | (with_reducible assumption) | assumption)
      have q122 : x4_1 < (l0_1.length : Int) := of_decide_eq_true (by first | (with_reducible assumption) | assumption)
      obtain ⟨ad122, A122_1, c122_1, e122, hx122_0, hx122_1, hl122_1, hi122_1⟩ := at_T45 HR0_1.out x4_1 p122 q122
      have hw122_1 := hx122_1
      have hw122_0 := hx122_0
      obtain rfl : ad121 = ad122 := (by injection e122)
      replace hx122_0 := zn HB.out hx122_0
      replace hx122_1 := zn HB.out hx122_1
      have HR122_1 := Aside0.mk hi122_1
      have HC122_1 := Aside0.mk hl122_1
      clear hi122_1 hl122_1
      replace p122 := eq_true p122
      replace q122 := eq_true q122
      have ea_ := Option.some.inj (hx121_1.symm.trans hx122_1)
      injection ea_ with ea_ en_ ec_
      subst ea_
      subst ec_
      clear en_
      refine start_ (n := 20) (S := fun w' => w'.cell? ⟨zN, 0, none⟩ = some (.slice Ao8 t117.length co8) ∧ w'.cell? ⟨zN, 1, none⟩ = some (u121001) ∧ w'.cell? ⟨zL, 0, none⟩ = some (.slice A0_0 l0_0.length c0_0) ∧ w'.cell? ⟨zL, 1, none⟩ = some (.slice (some ad121) l0_1.length c0_1) ∧ w'.cell? (ad121.add ((x4_1).toNat * 2)) = some (.int .i64 ((rd_T45 l0_1 x4_1).f0)) ∧ w'.cell? ⟨(ad121.add ((x4_1).toNat * 2)).block, (ad121.add ((x4_1).toNat * 2)).off + 1, none⟩ = some (.slice A121_1 ((rd_T45 l0_1 x4_1).f1).length c121_1) ∧ w'.cell? (ad121.add ((x4_1).toNat * 2)) = some (.int .i64 ((rd_T45 l0_1 x4_1).f0)) ∧ w'.cell? ⟨(ad121.add ((x4_1).toNat * 2)).block, (ad121.add ((x4_1).toNat * 2)).off + 1, none⟩ = some (.slice A121_1 ((rd_T45 l0_1 x4_1).f1).length c121_1)) (ds := [19]) #[false, false, false, false, false, false, false, false, false, false, false, false, false, false, false, false, false, false, false, false] (by kernel_rfl) rfl rfl ⟨(zb zH.out 0).trans rfl, (zb zH.out 1).trans rfl, (zb zG.out 0).trans rfl, (zb zG.out 1).trans rfl, (zn HB.out hw121_0), (zn HB.out hw121_1), (zn HB.out hw122_0), (zn HB.out hw122_1)⟩ (fun hHeld => ?_); refine with_tabW spec_l1CopyDisk.tab5 spec_l1CopyDisk.bits5 (fun HT_ HW_ => ?_)
      generalize wr.drew = w20 at zK zI zG zJ zH HB HR121_1 HR122_1 hx121_0 hx121_1 hx122_0 hx122_1 hHeld ⊢
      refine zA (i := 0) (N := some 16) (v := ?_) (a' := ?_) #[true, false, false, false, false, false, false, false, false, false, false, false, false, false, false, false, false, false, false, false] rfl rfl (zB HT_.out (by kernel_rfl)) (fun _ _ _ h => h) (Or.inl ⟨by rfl, ?_⟩) ?_ ?_
      rotate_left
      ·intro w'
       go_simp
       with_reducible rfl
      rotate_left
      ·simp only [Act.put, List.setIfInBounds_toArray, List.set_cons_zero, List.set_cons_succ, zp, zq]
       rfl
      refine zA (i := 2) (N := some 18) (v := ?_) (a' := ?_) #[true, false, true, false, false, false, false, false, false, false, false, false, false, false, false, false, false, false, false, false] rfl rfl (zB HT_.out (by kernel_rfl)) (fun _ _ _ h => h) (Or.inl ⟨by rfl, ?_⟩) ?_ ?_
      rotate_left
      ·intro w'
       go_simp
       with_reducible rfl
      rotate_left
      ·simp only [Act.put, List.setIfInBounds_toArray, List.set_cons_zero, List.set_cons_succ, zp, zq]
       rfl
      refine zA (i := 4) (N := some 20) (v := ?_) (a' := ?_) #[true, false, true, false, true, false, false, false, false, false, false, false, false, false, false, false, false, false, false, false] rfl rfl (zB HT_.out (by kernel_rfl)) (fun _ _ _ h => h) (Or.inl ⟨by rfl, ?_⟩) ?_ ?_
      rotate_left
      ·intro w'
       go_simp
       with_reducible rfl
      rotate_left
      ·simp only [Act.put, List.setIfInBounds_toArray, List.set_cons_zero, List.set_cons_succ, zp, zq]
       rfl
      refine zA (i := 8) (N := some 24) (v := ?_) (a' := ?_) #[true, false, true, false, true, false, false, false, true, false, false, false, false, false, false, false, false, false, false, false] rfl rfl (zB HT_.out (by kernel_rfl)) (fun _ _ _ h => h) (Or.inl ⟨by rfl, ?_⟩) ?_ ?_
      rotate_left
      ·intro w'
       go_simp
       with_reducible rfl
      rotate_left
      ·simp only [Act.put, List.setIfInBounds_toArray, List.set_cons_zero, List.set_cons_succ, zp, zq]
       rfl
      refine zA (i := 10) (N := some 26) (v := ?_) (a' := ?_) #[true, false, true, false, true, false, false, false, true, false, true, false, false, false, false, false, false, false, false, false] rfl rfl (zB HT_.out (by kernel_rfl)) (fun _ _ _ h => h) (Or.inl ⟨by rfl, ?_⟩) ?_ ?_
      rotate_left
      ·intro w'
       go_simp
       with_reducible rfl
      rotate_left
      ·simp only [Act.put, List.setIfInBounds_toArray, List.set_cons_zero, List.set_cons_succ, zp, zq]
       rfl
      refine take_ (i := 1) (N := some 17) (v := ?_) (a' := ?_) #[true, true, true, false, true, false, false, false, true, false, true, false, false, false, false, false, false, false, false, false] rfl rfl (take_ofW HT_.out HW_.out (by kernel_rfl)) (fun _ _ _ h => h) (Or.inl ⟨by rfl, ?_⟩) hHeld ?_ ?_
      rotate_left
      ·rintro w' ⟨s0, s1, s2, s3, s4, s5, s6, s7⟩
       go_simp
       with_reducible rfl
      rotate_left
      ·simp only [Act.put, List.setIfInBounds_toArray, List.set_cons_zero, List.set_cons_succ, zp, zq]
       rfl
      refine take_ (i := 3) (N := some 19) (v := ?_) (a' := ?_) #[true, true, true, true, true, false, false, false, true, false, true, false, false, false, false, false, false, false, false, false] rfl rfl (take_ofW HT_.out HW_.out (by kernel_rfl)) (fun _ _ _ h => h) (Or.inl ⟨by rfl, ?_⟩) hHeld ?_ ?_
      rotate_left
      ·rintro w' ⟨s0, s1, s2, s3, s4, s5, s6, s7⟩
       go_simp
       with_reducible rfl
      rotate_left
      ·simp only [Act.put, List.setIfInBounds_toArray, List.set_cons_zero, List.set_cons_succ, zp, zq]
       rfl
      refine zA (i := 5) (N := some 21) (v := ?_) (a' := ?_) #[true, true, true, true, true, true, false, false, true, false, true, false, false, false, false, false, false, false, false, false] rfl rfl (zB HT_.out (by kernel_rfl)) (fun _ _ _ h => h) (Or.inl ⟨by rfl, ?_⟩) ?_ ?_
      rotate_left
      ·intro w'
       go_simp
       with_reducible rfl
      rotate_left
      ·simp only [Act.put, List.setIfInBounds_toArray, List.set_cons_zero, List.set_cons_succ, zp, zq]
       rfl
      refine zA (i := 6) (N := some 22) (v := ?_) (a' := ?_) #[true, true, true, true, true, true, true, false, true, false, true, false, false, false, false, false, false, false, false, false] rfl rfl (zB HT_.out (by kernel_rfl)) (fun _ _ _ h => h) (Or.inl ⟨by rfl, ?_⟩) ?_ ?_
      rotate_left
      ·intro w'
       go_simp
       with_reducible rfl
      rotate_left
      ·simp only [Act.put, List.setIfInBounds_toArray, List.set_cons_zero, List.set_cons_succ, zp, zq]
       rfl
      refine take_ (i := 7) (N := some 23) (v := ?_) (a' := ?_) #[true, true, true, true, true, true, true, true, true, false, true, false, false, false, false, false, false, false, false, false] rfl rfl (take_ofW HT_.out HW_.out (by kernel_rfl)) (fun _ _ _ h => h) (Or.inl ⟨by rfl, ?_⟩) hHeld ?_ ?_
      rotate_left
      ·rintro w' ⟨s0, s1, s2, s3, s4, s5, s6, s7⟩
       go_simp
       with_reducible rfl
      rotate_left
      ·simp only [Act.put, List.setIfInBounds_toArray, List.set_cons_zero, List.set_cons_succ, zp, zq]
       rfl
      refine take_ (i := 9) (N := some 25) (v := ?_) (a' := ?_) #[true, true, true, true, true, true, true, true, true, true, true, false, false, false, false, false, false, false, false, false] rfl rfl (take_ofW HT_.out HW_.out (by kernel_rfl)) (fun _ _ _ h => h) (Or.inl ⟨by rfl, ?_⟩) hHeld ?_ ?_
      rotate_left
      ·rintro w' ⟨s0, s1, s2, s3, s4, s5, s6, s7⟩
       go_simp
       with_reducible rfl
      rotate_left
      ·simp only [Act.put, List.setIfInBounds_toArray, List.set_cons_zero, List.set_cons_succ, zp, zq]
       rfl
      refine zA (i := 11) (N := some 27) (v := ?_) (a' := ?_) #[true, true, true, true, true, true, true, true, true, true, true, true, false, false, false, false, false, false, false, false] rfl rfl (zB HT_.out (by kernel_rfl)) (fun _ _ _ h => h) (Or.inl ⟨by rfl, ?_⟩) ?_ ?_
      rotate_left
      ·intro w'
       go_simp
       with_reducible rfl
      rotate_left
      ·simp only [Act.put, List.setIfInBounds_toArray, List.set_cons_zero, List.set_cons_succ, zp, zq]
       rfl
      refine zA (i := 12) (N := some 28) (v := ?_) (a' := ?_) #[true, true, true, true, true, true, true, true, true, true, true, true, true, false, false, false, false, false, false, false] rfl rfl (zB HT_.out (by kernel_rfl)) (fun _ _ _ h => h) (Or.inl ⟨by rfl, ?_⟩) ?_ ?_
      rotate_left
      ·intro w'
       go_simp
       with_reducible rfl
      rotate_left
      ·simp only [Act.put, List.setIfInBounds_toArray, List.set_cons_zero, List.set_cons_succ, zp, zq]
       rfl
      refine take_ (i := 13) (N := some 29) (v := ?_) (a' := ?_) #[true, true, true, true, true, true, true, true, true, true, true, true, true, true, false, false, false, false, false, false] rfl rfl (take_ofW HT_.out HW_.out (by kernel_rfl)) (fun _ _ _ h => h) (Or.inl ⟨by rfl, ?_⟩) hHeld ?_ ?_
      rotate_left
      ·rintro w' ⟨s0, s1, s2, s3, s4, s5, s6, s7⟩
       go_simp
       with_reducible rfl
      rotate_left
      ·simp only [Act.put, List.setIfInBounds_toArray, List.set_cons_zero, List.set_cons_succ, zp, zq]
       rfl
      refine one_ (i := 14) (N := some 30) #[true, true, true, true, true, true, true, true, true, true, true, true, true, true, true, false, false, false, false, false] rfl rfl (one_of HT_.out (by kernel_rfl)) (by decide) (fun K hK => ?_)
      refine goes_ Try.func46 (by kernel_rfl) rfl #[.slice A121_1 ((rd_T45 l0_1 x4_1).f1).length c121_1] (by rfl) rfl rfl (by (try simp only [List.map_toArray, List.map_cons, List.map_nil]); first | done | rfl) ?_
      with_reducible refine (spec_l1Copy.calls k1 _ _ ((rd_T45 l0_1 x4_1).f1) t123 _ ?side1 ?side2 A15.out).mono ?_
      (case side1 => repeat (first | exact (Kd.C_below HR122_1.out HB.out) | (with_reducible refine Kd.C_alloc ?_ _) | (with_reducible refine Kd.C_drewN ?_ _) | (with_reducible refine Kd.C_drew ?_)))
      (case side2 => exact HC122_1.out)
      rintro e w21 ⟨v124, rfl, zZ, hb⟩
      refine ⟨_, rfl, ?_⟩
      have n0_ := Aside0.mk (Kd.R_elder' (RL zK.out) (Kd.R_base zZ) hb)
      have n1_ := Aside0.mk (Kd.S_elder' (SL zI.out) (Kd.R_base zZ) hb)
      have n2_ := Aside0.mk (Kd.R_lower (Kd.R_new' zZ (Kd.R_lt (RL zK.out))) (zm (by repeat (first | (with_reducible first | exact HB.out | apply zf | apply ze | apply zi | refine zc ?_ zR.out | refine zc ?_ zS.out | refine zc ?_ zT.out) | exact HB.out))))
      have n3_ := Aside0.mk (zl (g := zL) (o := .cells #[.slice A0_0 l0_0.length c0_0, .slice (some ad121) l0_1.length c0_1] 35 (0, 0)) (BL zG.out) hb)
      have n4_ := Aside0.mk (zl (g := zM) (o := .cells #[.slice none 0 0, .slice none 0 0] 35 (0, 0)) (BL zJ.out) hb)
      have n5_ := Aside0.mk (zl (g := zN) (o := .cells #[.slice Ao8 t117.length co8, u121001] 35 (0, 0)) (BL zH.out) hb)
      have n6_ := Aside0.mk (zk (by repeat (first | (with_reducible first | exact HB.out | apply zf | apply ze | apply zi | refine zc ?_ zR.out | refine zc ?_ zS.out | refine zc ?_ zT.out) | exact HB.out)) hb)
      clear zK
      clear zI
      clear zG
      clear zJ
      clear zH
      clear HB
      have zK := n0_
      have zI := n1_
      have zY := n2_
      have zG := n3_
      have zJ := n4_
      have zH := n5_
      have HB := n6_
      clear n0_ n1_ n2_ n3_ n4_ n5_ n6_
      (try clear hb)
      (try clear hb2)
      (try clear hk)
      (try clear hi)
      (try clear zZ)
      obtain ⟨Ao22, co22, eo22⟩ := Kd.R_slice zY.out
      (first | subst eo22 | (injection eo22 with f1_ f2_ f3_; have f4_ := f1_.symm; have f5_ := f3_.symm; clear f1_ f2_ f3_; subst f4_; subst f5_))
      refine hK.out _ _ ⟨(zb zH.out 0).trans rfl, (zb zH.out 1).trans rfl, (zb zG.out 0).trans rfl, (zb zG.out 1).trans rfl, (zn HB.out hw121_0), (zn HB.out hw121_1), (zn HB.out hw122_0), (zn HB.out hw122_1)⟩ (fun hHeld => ?_)
      clear hK K
      refine norm_ (a' := ?_) ?_ ?_
      rotate_left
      ·show Act.put _ (some 30) _ = _
       simp only [Act.put, List.setIfInBounds_toArray, List.set_cons_zero, List.set_cons_succ, zp, zq]
       rfl
      refine zA (i := 15) (N := some 31) (v := ?_) (a' := ?_) #[true, true, true, true, true, true, true, true, true, true, true, true, true, true, true, true, false, false, false, false] rfl rfl (zB HT_.out (by kernel_rfl)) (fun _ _ _ h => h) (Or.inl ⟨by rfl, ?_⟩) ?_ ?_
      rotate_left
      ·intro w'
       go_simp
       with_reducible rfl
      rotate_left
      ·simp only [Act.put, List.setIfInBounds_toArray, List.set_cons_zero, List.set_cons_succ, zp, zq]
       rfl
      refine one_ (i := 16) (N := some 32) #[true, true, true, true, true, true, true, true, true, true, true, true, true, true, true, true, true, false, false, false] rfl rfl (one_of HT_.out (by kernel_rfl)) (by decide) (fun K hK => ?_)
      refine value_ (w1 := ?_) (v := ?_) (by rfl) rfl ?_ ?_
      rotate_left 2
      ·go_simp
       constructor
       ·rfl
       ·rfl
      refine hK.out _ _ ⟨(zb (zh zH.out _) 0).trans rfl, (zb (zh zH.out _) 1).trans rfl, (zb (zh zG.out _) 0).trans rfl, (zb (zh zG.out _) 1).trans rfl, (World.cell?_alloc_lt _ _ _ (World.block_lt_of_cell? _ _ ((zn HB.out hw121_0)))).trans ((zn HB.out hw121_0)), (World.cell?_alloc_lt _ _ _ (World.block_lt_of_cell? _ _ ((zn HB.out hw121_1)))).trans ((zn HB.out hw121_1)), (World.cell?_alloc_lt _ _ _ (World.block_lt_of_cell? _ _ ((zn HB.out hw122_0)))).trans ((zn HB.out hw122_0)), (World.cell?_alloc_lt _ _ _ (World.block_lt_of_cell? _ _ ((zn HB.out hw122_1)))).trans ((zn HB.out hw122_1))⟩ (fun hHeld => ?_)
      clear hK K
      refine norm_ (a' := ?_) ?_ ?_
      rotate_left
      ·show Act.put _ (some 32) _ = _
       simp only [Act.put, List.setIfInBounds_toArray, List.set_cons_zero, List.set_cons_succ, zp, zq]
       rfl
      refine one_ (i := 17) (N := some 33) #[true, true, true, true, true, true, true, true, true, true, true, true, true, true, true, true, true, true, false, false] rfl rfl (one_of HT_.out (by kernel_rfl)) (by decide) (fun K hK => ?_)
      refine Kd.S_append_step k45 (w0 := w) w.heap.size (by rfl) (.tmp 17) (.tmp 32) 33 45 (.agg #[(.int .i64 0), (.slice none 0 0)]) 32 rfl Try.underlying33 info45 rfl (by decide) (by omega) u121001 x121001_1 (⟨(rd_T45 l0_1 x4_1).f0, t123⟩ : S45) [.int .i64 ((rd_T45 l0_1 x4_1).f0), .slice Ao22 t123.length co22] (fun k_ => some k_ ≠ (.slice Ao8 t117.length co8 : Value).ownBlock) (fun k_ => some k_ = (.slice Ao22 t123.length co22 : Value).ownBlock) rfl rfl ?aP (fun k_ hk_ => ((Kd.R_mono (ok' := fun k_ => ((fun k_ => some k_ ≠ (.slice Ao8 t117.length co8 : Value).ownBlock)) k_ ∧ some k_ ≠ (u121001 : Value).ownBlock) (Kd.R_apart' (zY.out) (Kd.S_typed zI.out) (by decide)) (fun k_ hk => ⟨hk.1.2, hk.2⟩))).1 k_ hk_.symm) ?aF ?aO ?aB ?aS ?aL ?_
      (case aP => exact k45_mkM _ _ _ (⟨(rd_T45 l0_1 x4_1).f0, t123⟩ : S45) (Kd.R_mono (Kd.R_tight rfl (Kd.R_mono (ok' := fun k_ => ((fun k_ => some k_ ≠ (.slice Ao8 t117.length co8 : Value).ownBlock)) k_ ∧ some k_ ≠ (u121001 : Value).ownBlock) (Kd.R_apart' (zY.out) (Kd.S_typed zI.out) (by decide)) (fun k_ hk => ⟨hk.1.2, hk.2⟩))) (fun _ h_ => h_)))
      (case aB => exact (by repeat (first | (with_reducible first | exact HB.out | apply zf | apply ze | apply zi | refine zc ?_ zR.out | refine zc ?_ zS.out | refine zc ?_ zT.out) | exact HB.out)))
      (case aF => exact (fun k_ hk => Kd.fresh' (Kd.R_lt (RL zK.out)) k_ hk))
      (case aO => exact (SL (Kd.S_mono zI.out (fun k_ hk => ⟨hk.1, fun e_ => hk.2 e_⟩))))
      (case aS => exact (zm (by repeat (first | (with_reducible first | exact HB.out | apply zf | apply ze | apply zi | refine zc ?_ zR.out | refine zc ?_ zS.out | refine zc ?_ zT.out) | exact HB.out))))
      (case aL => have := LMc16.out; omega)
      intro v127 w23 ho hb hg hat
      rw [← Ny126.out] at ho
      have n0_ := Aside0.mk (Kd.R_over' (RL zK.out) (Kd.S_typed (SL zI.out)) (by decide) hg)
      have n1_ := Aside0.mk (zD (g := zL) (o := .cells #[.slice A0_0 l0_0.length c0_0, .slice (some ad121) l0_1.length c0_1] 35 (0, 0)) (BL zG.out) hg (Kd.S_ne zI.out zG.out (by decide)))
      have n2_ := Aside0.mk (zD (g := zM) (o := .cells #[.slice none 0 0, .slice none 0 0] 35 (0, 0)) (BL zJ.out) hg (Kd.S_ne zI.out zJ.out (by decide)))
      have n3_ := Aside0.mk (zD (g := zN) (o := .cells #[.slice Ao8 t117.length co8, u121001] 35 (0, 0)) (BL zH.out) hg (Kd.S_ne zI.out zH.out (by decide)))
      have n4_ := Aside0.mk (hb)
      have n5_ := Aside0.mk (ho)
      clear zK
      clear zG
      clear zJ
      clear zH
      clear HB
      clear zI
      clear zY
      have zK := n0_
      have zG := n1_
      have zJ := n2_
      have zH := n3_
      have HB := n4_
      have zab := n5_
      clear n0_ n1_ n2_ n3_ n4_ n5_
      clear ho hb hg hat
      obtain ⟨Ao24, co24, eo24⟩ := Kd.S_slice zab.out
      (first | subst eo24 | (injection eo24 with f1_ f2_ f3_; have f4_ := f1_.symm; have f5_ := f3_.symm; clear f1_ f2_ f3_; subst f4_; subst f5_))
      refine hK.out _ _ ⟨(zb zH.out 0).trans rfl, (zb zH.out 1).trans rfl, (zb zG.out 0).trans rfl, (zb zG.out 1).trans rfl, (zn HB.out hw121_0), (zn HB.out hw121_1), (zn HB.out hw122_0), (zn HB.out hw122_1)⟩ (fun hHeld => ?_)
      clear hK K
      refine norm_ (a' := ?_) ?_ ?_
      rotate_left
      ·show Act.put _ (some 33) _ = _
       simp only [Act.put, List.setIfInBounds_toArray, List.set_cons_zero, List.set_cons_succ, zp, zq]
       rfl
      refine zA (i := 18) (N := some 34) (v := ?_) (a' := ?_) #[true, true, true, true, true, true, true, true, true, true, true, true, true, true, true, true, true, true, true, false] rfl rfl (zB HT_.out (by kernel_rfl)) (fun _ _ _ h => h) (Or.inl ⟨by rfl, ?_⟩) ?_ ?_
      rotate_left
      ·intro w'
       go_simp
       with_reducible rfl
      rotate_left
      ·simp only [Act.put, List.setIfInBounds_toArray, List.set_cons_zero, List.set_cons_succ, zp, zq]
       rfl
      refine last_ (i := 19) (N := none) #[true, true, true, true, true, true, true, true, true, true, true, true, true, true, true, true, true, true, true, true] rfl rfl (one_of HT_.out (by kernel_rfl)) (by decide) (fun K hK => ?_)
      have hs25 : w23.cell? ⟨zN, 1, none⟩ = some (u121001) := (zb zH.out 1).trans rfl
      have hfs25 := zd zH.out 1
      have hns25_0 := zO.out
      have hns25_1 := zP.out
      have hms25_0 := zQ.out
      have hms25_1 := zW.out
      refine skip_ (w1 := ?_) (by rfl) rfl ?_ ?_
      rotate_left
      ·go_simp
       rfl
      refine hK.out _ _ ?_
      clear hK K
      refine done_ (done_of HT_.out (by kernel_rfl)) ?_
      try go_wp2
      go_roundg k1
      case measure => have := HK1.out; omega
      case rel => exact ⟨(wrap64 (x4_1 + 1)), (y126), (.slice Ao24 y126.length co24), (by first | rfl | (simp; done) | (simp [*]; done)), H', ⟨by have := HK1.out; omega⟩, ⟨RL (Kd.R_mono (Kd.R_far (p := ⟨zN, 1, none⟩) (Kd.R_types zK.out zH.out (by decide)) (fun _ hk => hk.2) (.slice Ao24 y126.length co24)) (fun _ hk => trivial))⟩, ⟨SL (Kd.S_mono (Kd.S_far (p := ⟨zN, 1, none⟩) (Kd.S_types zab.out zH.out (by decide)) (fun _ hk => hk.2) (.slice Ao24 y126.length co24)) (fun _ hk => hk.1))⟩, ⟨by (with_reducible repeat (first | refine zj ?_ _ | refine zg ?_ | refine zh ?_ _)); refine zE ?_ zO.out _; (with_reducible repeat (first | refine zj ?_ _ | refine zg ?_ | refine zh ?_ _)); exact zG.out⟩, ⟨by (with_reducible repeat (first | refine zj ?_ _ | refine zg ?_ | refine zh ?_ _)); refine zE ?_ zP.out _; (with_reducible repeat (first | refine zj ?_ _ | refine zg ?_ | refine zh ?_ _)); exact zJ.out⟩, ⟨by (with_reducible repeat (first | refine zj ?_ _ | refine zg ?_ | refine zh ?_ _)); refine zz (cs := #[.slice Ao8 t117.length co8, u121001]) ?_ 1 _ rfl; (with_reducible repeat (first | refine zj ?_ _ | refine zg ?_ | refine zh ?_ _)); exact zH.out⟩, ⟨by repeat (first | (with_reducible first | exact HB.out | apply zf | apply ze | apply zi | refine zc ?_ zR.out | refine zc ?_ zS.out | refine zc ?_ zT.out) | exact HB.out)⟩⟩
     ·rw [if_neg c16] at H
      exact absurd H (by simp)
    ·rw [if_neg c14] at H
     exact absurd H (by simp)
   ·rw [if_neg c13] at H
    have c13b0 : decide (x4_1 < (l0_1.length : Int)) = false := decide_eq_false c13
    clear c13
    simp only [Option.some.injEq, Prod.mk.injEq] at H
    obtain ⟨rfl, rfl⟩ := H
    have zHb := zU.out
    have zIb := zV.out
    have zJb := zO.out
    have zKb := zQ.out
    have znb : wr.cell? ⟨zL, 0, none⟩ = some (.slice A0_0 l0_0.length c0_0) := (zb zG.out 0).trans rfl
    have zob : wr.cell? ⟨zL, 1, none⟩ = some (.slice A0_1 l0_1.length c0_1) := (zb zG.out 1).trans rfl
    have zpb := zd zG.out 0
    have zqb := zd zG.out 1
    have zLb := zW.out
    have zMb := zP.out
    have zrb : wr.cell? ⟨zN, 0, none⟩ = some (.slice Ao8 t117.length co8) := (zb zH.out 0).trans rfl
    have zsb : wr.cell? ⟨zN, 1, none⟩ = some (u121001) := (zb zH.out 1).trans rfl
    have ztb := zd zH.out 0
    have zub := zd zH.out 1
    have zvb : wr.cell? ⟨zM, 0, none⟩ = some (.slice none 0 0) := (zb zJ.out 0).trans rfl
    have zwb : wr.cell? ⟨zM, 1, none⟩ = some (.slice none 0 0) := (zb zJ.out 1).trans rfl
    have zxb := zd zJ.out 0
    have zyb := zd zJ.out 1
    obtain ⟨Ao32, co32, eo32⟩ := Kd.S_slice zI.out
    subst eo32
    go_wp2
    refine bodyPost_ret (results_cell_row rfl _ _ zM 35 #[.slice Ao8 t117.length co8, .slice Ao32 x121001_1.length co32] (0, 0) _ rfl (by (with_reducible repeat (first | refine zj ?_ _ | refine zg ?_ | refine zh ?_ _)); refine zz (cs := #[.slice Ao8 t117.length co8, .slice none 0 0]) ?_ 1 _ rfl; (with_reducible repeat (first | refine zj ?_ _ | refine zg ?_ | refine zh ?_ _)); refine zz (cs := #[.slice none 0 0, .slice none 0 0]) ?_ 0 _ rfl; (with_reducible repeat (first | refine zj ?_ _ | refine zg ?_ | refine zh ?_ _)); exact zJ.out) Try.underlying35 rfl (by kernel_rfl)) rfl ?_
    exact ⟨_, _, by first | rfl | (simp [errW_none, errW_some] <;> rfl) | (simp [*, errW_none, errW_some] <;> rfl), RL (Kd.R_mono (Kd.R_far (p := ⟨zM, 1, none⟩) (Kd.R_far (p := ⟨zM, 0, none⟩) (Kd.R_types zK.out zJ.out (by decide)) (fun _ hk => hk.2) (.slice Ao8 t117.length co8)) (fun _ hk => hk.2) (.slice Ao32 x121001_1.length co32)) (fun _ hk => trivial)), SL (Kd.S_mono (Kd.S_far (p := ⟨zM, 1, none⟩) (Kd.S_far (p := ⟨zM, 0, none⟩) (Kd.S_types zI.out zJ.out (by decide)) (fun _ hk => hk.2) (.slice Ao8 t117.length co8)) (fun _ hk => hk.2) (.slice Ao32 x121001_1.length co32)) (fun _ hk => hk.1)), by repeat (first | (with_reducible first | exact HB.out | apply zf | apply ze | apply zi | refine zc ?_ zR.out | refine zc ?_ zS.out | refine zc ?_ zT.out) | exact HB.out)⟩

end Go.Proofs.Ytejecjjimggjeaa.GFnSync
