/- Written by give.py, a program of this session, that runs the kit's print and lays contracts proved by hand beside it. -/
import Derived.Test.YtjoafknckmoojaaDoorGFnExactFormatDiskx0
import Derived.Test.YtjoafknckmoojaaDoorGFnExactFormatDiskx5
import Derived.Test.YtjoafknckmoojaaDoorGFnExactFormatDiskx10
import Derived.Test.YtjoafknckmoojaaDoorGFnExactFormatDiskx11
namespace Go.Proofs.YtjoafknckmoojaaDoor.GFnExactFormatDisk
open Go.RowKit Go.Proofs.YtjoafknckmoojaaDoorW.PrintWords Go.Proofs.YtjoafknckmoojaaDoorW.PrintLast Go.Proofs.YtjoafknckmoojaaDoorW.PrintMore
attribute [local go_sem] max2_int min2_int max_two min_two max_three min_three max_four min_four Go.Proofs.YtjoafknckmoojaaDoorH.str_leq Go.Proofs.YtjoafknckmoojaaDoorH.str_geq Go.Proofs.YtjoafknckmoojaaDoorH.str_gtr   -- for this text's walks alone
set_option linter.unusedVariables false
set_option linter.unusedSimpArgs false

def laws_markDisk.f (k : Nat) (l0_0 : List Int) (l0_1 : List (S195)) (a1 : Int) : Option (Int × List Int) := (laws_markByteS.f k l0_0 a1).bind fun bt398 => ((laws_markWriteS.f k l0_1 bt398.1).bind fun t400 => (some (t400, bt398.2)))
theorem laws_markDisk.mono : ∀ a0 a1 a2 k, LeO (laws_markDisk.f k a0 a1 a2) (laws_markDisk.f (k + 1) a0 a1 a2) := by
 intro a0 a1 a2 k
 unfold laws_markDisk.f
 repeat' first
   | (with_reducible exact laws_markByteS.mono _ _ _)
   | (with_reducible exact laws_markWriteS.mono _ _ _)
   | (with_reducible exact LeO.refl _)
   | (with_reducible exact LeO.none _)
   | (with_reducible refine LeO.ite ?_ ?_)
   | (with_reducible refine LeO.bind ?_ (fun _ => ?_))
   | exact laws_markByteS.mono _ _ _
   | exact laws_markWriteS.mono _ _ _
   | exact LeO.none _
   | refine LeO.ite ?_ ?_
   | refine LeO.bind ?_ (fun _ => ?_)
set_option maxHeartbeats 8000000 in
set_option maxRecDepth 100000 in
theorem laws_markDisk.calls (k : Nat) (P0_0_ : Nat → Prop) (u9000_ : Value) (l0_0 : List Int) (A0_1 : Option Addr) (c0_1 : Nat) (l0_1 : List (S195)) (a1 : Int) (r1 : Int) (r2 : List Int) (w0 w : World) (hB : Below w0.heap.size w0 w) (zE : Kd.R (Kd.int .u8) 5 w w0.heap.size P0_0_ u9000_ l0_0) (hr0_1 : ∀ W_, Kept w W_ (fun k_ => P0_0_ k_) → Kd.C k195 W_ A0_1 l0_1.length l0_1) (hc0_1 : l0_1.length ≤ c0_1) (h : laws_markDisk.f k l0_0 l0_1 a1 = some (r1, r2)) :
  Calls Tryd.prog 28 #[.agg #[u9000_, .slice A0_1 l0_1.length c0_1], .int .i64 a1] w fun e w' => e = .returned (.int .i64 r1) ∧ Kd.R (Kd.int .u8) 5 w' w0.heap.size (fun k_ => (P0_0_ k_ ∨ w.heap.size ≤ k_)) u9000_ r2 ∧ Below w0.heap.size w0 w' ∧ Kept w w' (fun k_ => P0_0_ k_) := by
 have hu47 := Tryd.underlying47
 have zB := Aside0.mk (show Kd.R (Kd.int .u8) 5 w w0.heap.size (fun k_ => (P0_0_ k_ ∨ w.heap.size ≤ k_)) u9000_ l0_0 from Kd.R_mono zE (fun k_ hk => (.inl hk)))
 have HR0_1 := Aside0.mk hr0_1
 have HC0_1 := Aside0.mk hc0_1
 clear hr0_1 hc0_1
 have HK := Aside0.mk (Kept.refl w (fun k_ => P0_0_ k_))
 have HW0 := Aside0.mk hB.size
 have HB := Aside0.mk hB
 clear hB
 have H : ((laws_markByteS.f k l0_0 a1).bind fun bt398 => ((laws_markWriteS.f k l0_1 bt398.1).bind fun t400 => (some (t400, bt398.2)))) = some (r1, r2) := h
 clear h
 replace H := Option.bind_eq_some_iff.mp H
 obtain ⟨⟨t398, t399⟩, A30, H⟩ := H
 replace H : ((laws_markWriteS.f k l0_1 t398).bind fun t400 => (some (t400, t399))) = some (r1, r2) := H
 have A3 := Aside0.mk A30
 clear A30
 replace H := Option.bind_eq_some_iff.mp H
 obtain ⟨t400, A40, H⟩ := H
 replace H : (some (t400, t399)) = some (r1, r2) := H
 have A4 := Aside0.mk A40
 clear A40
 simp only [Option.some.injEq, Prod.mk.injEq] at H
 obtain ⟨rfl, rfl⟩ := H
 obtain ⟨Ao5, co5, eo5⟩ := Kd.R_slice zB.out
 subst eo5
 go_enter Tryd.func28, Tryd.ntmps28
 go_wp2_with (first | ((with_reducible refine zr (N := 2) rfl ?_); refine zu ?hg (N := 2) ?hd (cs := #[.slice Ao5 l0_0.length co5, .slice A0_1 l0_1.length c0_1]) (t := 47) ?hr ?_; (case hd => rfl); (case hg => rfl); (case hr => first | (go_simp; done) | (go_simp; rfl)); intro zC hg w6 hbox hb; have n0_ := Aside0.mk (Kd.R_below (by (with_reducible repeat (first | apply Kd.R_alloc | apply Kd.R_drewN | apply Kd.R_drew)); exact zB.out) hb); have n1_ := Aside0.mk (Kept.below (S := (fun k_ => P0_0_ k_)) (by repeat (first | (with_reducible first | exact HK.out | apply Kept.alloc | apply Kept.drewN | apply Kept.drew) | exact HK.out)) hb); have n2_ := Aside0.mk (zm (by repeat (first | (with_reducible first | exact HB.out | apply zd | apply zb | apply zc) | exact HB.out)) hb); have n3_ := Aside0.mk (hbox); have n4_ := Aside0.mk ((by rw [hg]; exact (by first | exact HK.out.1 | exact (show Kept w _ (fun k_ => P0_0_ k_) from by repeat (first | (with_reducible first | exact HK.out | apply Kept.alloc | apply Kept.drewN | apply Kept.drew) | exact HK.out)).1) : w.heap.size ≤ zC)); have n5_ := Aside0.mk ((by rw [hg]; exact (zk (by repeat (first | (with_reducible first | exact HB.out | apply zd | apply zb | apply zc) | exact HB.out))) : w0.heap.size ≤ zC)); clear zB; clear HK; clear HB; have zB := n0_; have HK := n1_; have HB := n2_; have zA := n3_; have GW397 := n4_; have zD := n5_; clear n0_ n1_ n2_ n3_ n4_ n5_; clear hb hbox hg; have zF : w6.cell? ⟨zC, 0, none⟩ = some (.slice Ao5 l0_0.length co5) := (ze zA.out 0).trans rfl; have zG : w6.cell? ⟨zC, 1, none⟩ = some (.slice A0_1 l0_1.length c0_1) := (ze zA.out 1).trans rfl; have zH := zg zA.out 0; have zI := zg zA.out 1) | ((with_reducible refine zn (f := 16) rfl ?_); refine zx (some 8) rfl rfl Tryd.func16 (by kernel_rfl) rfl #[.slice Ao5 l0_0.length co5, .int .i64 a1] rfl (by (try simp only [List.map_toArray, List.map_cons, List.map_nil]); first | done | rfl | (simp only [List.length_drop, List.length_take]; rfl)) ?_; (with_reducible refine (laws_markByteS.calls k (fun k_ => some k_ = (.slice Ao5 l0_0.length co5 : Value).ownBlock) (.slice Ao5 l0_0.length co5) l0_0 a1 t398 t399 w0 _ ?side1 ?side2 A3.out).mono ?_); (case side1 => repeat (first | (with_reducible first | exact HB.out | apply zd | apply zb | apply zc | refine zh ?_ zD.out) | exact HB.out)); (case side2 => exact Kd.R_tight rfl zB.out); rintro e w8 ⟨rfl, hy0, hb, hkp⟩; refine ⟨_, rfl, ?_⟩; have n0_ := Aside0.mk (Kd.R_reok rfl hy0 (fun k_ e_ => zB.out.1 k_ e_)); have n1_ := Aside0.mk (blk_kept (by (with_reducible repeat (first | refine zj ?_ _ | refine zl ?_ | refine zi ?_ _)); exact zA.out) hkp (fun hs_ => (fun e_ => (Kd.R_ne zB.out zA.out (by decide)) e_) hs_)); have n2_ := Aside0.mk (Kept.then_ (S := (fun k_ => P0_0_ k_)) (by repeat (first | (with_reducible first | exact HK.out | apply Kept.alloc | apply Kept.drewN | apply Kept.drew | refine Kept.setCell ?_ (.inr GW397.out) _) | exact HK.out)) hkp (fun k_ hs_ => (fun e_ => (zB.out.1 k_ e_.symm)) hs_)); have n3_ := Aside0.mk (hb); clear zB; clear zA; clear HK; clear HB; have zB := n0_; have zA := n1_; have HK := n2_; have HB := n3_; clear n0_ n1_ n2_ n3_; (try clear hb); (try clear hkp); (try clear hy0); have zJ : w8.cell? ⟨zC, 0, none⟩ = some (.slice Ao5 l0_0.length co5) := (ze zA.out 0).trans rfl; have zK : w8.cell? ⟨zC, 1, none⟩ = some (.slice A0_1 l0_1.length c0_1) := (ze zA.out 1).trans rfl; have zL := zg zA.out 0; have zM := zg zA.out 1) | ((with_reducible refine zn (f := 88) rfl ?_); refine zx (some 12) rfl rfl Tryd.func88 (by kernel_rfl) rfl #[.slice A0_1 l0_1.length c0_1, .int .i64 t398] rfl (by (try simp only [List.map_toArray, List.map_cons, List.map_nil]); first | done | rfl | (simp only [List.length_drop, List.length_take]; rfl)) ?_; (with_reducible refine (laws_markWriteS.calls k _ _ l0_1 t398 t400 _ ?side1 ?side2 A4.out).mono ?_); (case side1 => exact Kd.C_kept_now HR0_1.out (by repeat (first | (with_reducible first | exact HK.out | apply Kept.alloc | apply Kept.drewN | apply Kept.drew | refine Kept.setCell ?_ (.inr GW397.out) _) | exact HK.out))); (case side2 => exact HC0_1.out); rintro e w' ⟨rfl, ⟨nd, rfl⟩⟩; refine ⟨_, rfl, ?_⟩))
 go_ret
 exact ⟨by first | rfl | (simp [errW_none, errW_some] <;> rfl) | (simp [*, errW_none, errW_some] <;> rfl), by (with_reducible repeat (first | apply Kd.R_alloc | apply Kd.R_drewN | apply Kd.R_drew)); exact zB.out, by repeat (first | (with_reducible first | exact HB.out | apply zd | apply zb | apply zc | refine zh ?_ zD.out) | exact HB.out), by repeat (first | (with_reducible first | exact HK.out | apply Kept.alloc | apply Kept.drewN | apply Kept.drew | refine Kept.setCell ?_ (.inr GW397.out) _) | exact HK.out)⟩

def laws_heldByteS.l0 : Nat → List Int → Int → Int → Option (Int)
 | 0, _, _, _ => none
 | k + 1, x0, x1, x5 => if x5 < (x0.length : Int) then (if 0 ≤ x5 then (if (rd x0 x5) = ((x1) % 256) then (laws_heldByteS.l0 k x0 (wrap64 (x1 + 1)) (wrap64 (x5 + 1))) else (some (-1))) else (none)) else (some x1)
def laws_heldByteS.f (k : Nat) (l0 : List Int) (a1 : Int) : Option (Int) := laws_heldByteS.l0 k l0 a1 0
theorem laws_heldByteS.mono_l : ∀ k, (∀ y0 y1 y2, LeO (laws_heldByteS.l0 k y0 y1 y2) (laws_heldByteS.l0 (k + 1) y0 y1 y2))
 | 0 => fun _ _ _ r h => by simp [laws_heldByteS.l0] at h
 | k + 1 => by
  have ih0 := laws_heldByteS.mono_l k
  ·intro y0 y1 y2
   unfold laws_heldByteS.l0
   repeat' first
   | (with_reducible exact ih0 _ _ _)
   | (with_reducible exact LeO.refl _)
   | (with_reducible exact LeO.none _)
   | (with_reducible refine LeO.ite ?_ ?_)
   | (with_reducible refine LeO.bind ?_ (fun _ => ?_))
   | exact ih0 _ _ _
   | exact LeO.none _
   | refine LeO.ite ?_ ?_
   | refine LeO.bind ?_ (fun _ => ?_)
theorem laws_heldByteS.mono : ∀ a0 a1 k, LeO (laws_heldByteS.f k a0 a1) (laws_heldByteS.f (k + 1) a0 a1) := by
 intro a0 a1 k
 have ih0 := laws_heldByteS.mono_l k
 unfold laws_heldByteS.f
 repeat' first
   | (with_reducible exact ih0 _ _ _)
   | (with_reducible exact LeO.refl _)
   | (with_reducible exact LeO.none _)
   | (with_reducible refine LeO.ite ?_ ?_)
   | (with_reducible refine LeO.bind ?_ (fun _ => ?_))
   | exact ih0 _ _ _
   | exact LeO.none _
   | refine LeO.ite ?_ ?_
   | refine LeO.bind ?_ (fun _ => ?_)
set_option maxHeartbeats 8000000 in
set_option maxRecDepth 100000 in
theorem laws_heldByteS.calls (k : Nat) (A0 : Option Addr) (c0 : Nat) (l0 : List Int) (a1 : Int) (r : Int) (w : World) (hr0 : Kd.C (Kd.int .u8) w A0 l0.length l0) (hc0 : l0.length ≤ c0) (h : laws_heldByteS.f k l0 a1 = some r) :
  Calls Tryd.prog 89 #[.slice A0 l0.length c0, .int .i64 a1] w fun e w' => e = .returned (.int .i64 r) ∧ Drawn0 w w' := by
 have HR0 := Aside0.mk hr0
 have HC0 := Aside0.mk hc0
 clear hr0 hc0
 have H : (laws_heldByteS.l0 k l0 a1 0) = some r := h
 clear h
 have H' := Aside0.mk H
 clear H
 go_enter Tryd.func89, Tryd.ntmps89
 go_wp2
 go_loopg [1, 5] k (fun kq v1 v5 w' => ∃ (x1_1 : Int) (x5_1 : Int), v1 = .int .i64 x1_1 ∧ v5 = .int .i64 x5_1 ∧ Aside0 (laws_heldByteS.l0 kq l0 x1_1 x5_1 = some r) ∧ Aside0 (kq ≤ k) ∧ Drawn0 w w')
 case atStart => exact ⟨(a1), (0), (by first | rfl | (simp; done) | (simp [*]; done)), (by first | rfl | (simp; done) | (simp [*]; done)), H', ⟨Nat.le_refl _⟩, by repeat (first | exact Drawn0.refl _ | apply Drawn0.step)⟩
 case round =>
  clear H'
  try clear p2
  obtain ⟨x1_1, x5_1, rfl, rfl, HA, HK1, ⟨m1, rfl⟩⟩ := hrel
  cases gk with
  | zero => exact absurd HA.out (by simp [laws_heldByteS.l0])
  | succ k1 =>
   have H := HA.out
   clear HA
   simp only [laws_heldByteS.l0] at H
   by_cases c3 : x5_1 < (l0.length : Int)
   ·rw [if_pos c3] at H
    have c3b0 : decide (x5_1 < (l0.length : Int)) = true := decide_eq_true c3
    clear c3
    by_cases c4 : 0 ≤ x5_1
    ·rw [if_pos c4] at H
     have c4b0 : decide (0 ≤ x5_1) = true := decide_eq_true c4
     clear c4
     by_cases c5 : (rd l0 x5_1) = ((x1_1) % 256)
     ·rw [if_pos c5] at H
      have c5b0 : ((rd l0 x5_1) == ((x1_1) % 256)) = true := beq_iff_eq.mpr c5
      have c5b1 : ((rd l0 x5_1) != ((x1_1) % 256)) = false := bne_eq_false_iff_eq.mpr c5
      clear c5
      have H' := Aside0.mk H
      clear H
      have p401 : 0 ≤ (x5_1 : Int) := of_decide_eq_true (by first | (with_reducible assumption) | assumption)
      have q401 : x5_1 < (l0.length : Int) := of_decide_eq_true (by first | (with_reducible assumption) | assumption)
      obtain ⟨ad401, e401, hx401_0⟩ := Kd.at_int HR0.out x5_1 p401 q401
      cases e401
      replace p401 := eq_true p401
      replace q401 := eq_true q401
      go_wp2
      go_roundg k1
      case measure => have := HK1.out; omega
      case rel => exact ⟨(wrap64 (x1_1 + 1)), (wrap64 (x5_1 + 1)), (by first | rfl | (simp; done) | (simp [*]; done)), (by first | rfl | (simp; done) | (simp [*]; done)), H', ⟨by have := HK1.out; omega⟩, by repeat (first | exact Drawn0.refl _ | apply Drawn0.step)⟩
     ·rw [if_neg c5] at H
      have c5b0 : ((rd l0 x5_1) == ((x1_1) % 256)) = false := beq_eq_false_iff_ne.mpr c5
      have c5b1 : ((rd l0 x5_1) != ((x1_1) % 256)) = true := bne_iff_ne.mpr c5
      obtain rfl := Option.some.inj H
      have p401 : 0 ≤ (x5_1 : Int) := of_decide_eq_true (by first | (with_reducible assumption) | assumption)
      have q401 : x5_1 < (l0.length : Int) := of_decide_eq_true (by first | (with_reducible assumption) | assumption)
      obtain ⟨ad401, e401, hx401_0⟩ := Kd.at_int HR0.out x5_1 p401 q401
      cases e401
      replace p401 := eq_true p401
      replace q401 := eq_true q401
      go_wp2
      go_ret
      exact ⟨by first | rfl | (simp; done) | (simp [*]; done), by repeat (first | exact Drawn0.refl _ | apply Drawn0.step)⟩
    ·rw [if_neg c4] at H
     exact absurd H (by simp)
   ·rw [if_neg c3] at H
    have c3b0 : decide (x5_1 < (l0.length : Int)) = false := decide_eq_false c3
    clear c3
    obtain rfl := Option.some.inj H
    go_wp2
    go_ret
    exact ⟨by first | rfl | (simp; done) | (simp [*]; done), by repeat (first | exact Drawn0.refl _ | apply Drawn0.step)⟩

def laws_heldWriteS.l0 : Nat → List (S195) → Int → Int → Option (Int)
 | 0, _, _, _ => none
 | k + 1, x0, x1, x5 => if x5 < (x0.length : Int) then (if 0 ≤ x5 then (if ((rd_T195 x0 x5).f0) = x1 then ((laws_heldByteS.f k ((rd_T195 x0 x5).f1) (wrap64 (x1 + 1))).bind fun t404 => (if t404 < 0 then (some (-1)) else (laws_heldWriteS.l0 k x0 t404 (wrap64 (x5 + 1))))) else (some (-1))) else (none)) else (some x1)
def laws_heldWriteS.f (k : Nat) (l0 : List (S195)) (a1 : Int) : Option (Int) := laws_heldWriteS.l0 k l0 a1 0
theorem laws_heldWriteS.mono_l : ∀ k, (∀ y0 y1 y2, LeO (laws_heldWriteS.l0 k y0 y1 y2) (laws_heldWriteS.l0 (k + 1) y0 y1 y2))
 | 0 => fun _ _ _ r h => by simp [laws_heldWriteS.l0] at h
 | k + 1 => by
  have ih0 := laws_heldWriteS.mono_l k
  ·intro y0 y1 y2
   unfold laws_heldWriteS.l0
   repeat' first
   | (with_reducible exact ih0 _ _ _)
   | (with_reducible exact laws_heldByteS.mono _ _ _)
   | (with_reducible exact LeO.refl _)
   | (with_reducible exact LeO.none _)
   | (with_reducible refine LeO.ite ?_ ?_)
   | (with_reducible refine LeO.bind ?_ (fun _ => ?_))
   | exact ih0 _ _ _
   | exact laws_heldByteS.mono _ _ _
   | exact LeO.none _
   | refine LeO.ite ?_ ?_
   | refine LeO.bind ?_ (fun _ => ?_)
theorem laws_heldWriteS.mono : ∀ a0 a1 k, LeO (laws_heldWriteS.f k a0 a1) (laws_heldWriteS.f (k + 1) a0 a1) := by
 intro a0 a1 k
 have ih0 := laws_heldWriteS.mono_l k
 unfold laws_heldWriteS.f
 repeat' first
   | (with_reducible exact ih0 _ _ _)
   | (with_reducible exact laws_heldByteS.mono _ _ _)
   | (with_reducible exact LeO.refl _)
   | (with_reducible exact LeO.none _)
   | (with_reducible refine LeO.ite ?_ ?_)
   | (with_reducible refine LeO.bind ?_ (fun _ => ?_))
   | exact ih0 _ _ _
   | exact laws_heldByteS.mono _ _ _
   | exact LeO.none _
   | refine LeO.ite ?_ ?_
   | refine LeO.bind ?_ (fun _ => ?_)
set_option maxHeartbeats 8000000 in
set_option maxRecDepth 100000 in
theorem laws_heldWriteS.calls (k : Nat) (A0 : Option Addr) (c0 : Nat) (l0 : List (S195)) (a1 : Int) (r : Int) (w : World) (hr0 : Kd.C k195 w A0 l0.length l0) (hc0 : l0.length ≤ c0) (h : laws_heldWriteS.f k l0 a1 = some r) :
  Calls Tryd.prog 90 #[.slice A0 l0.length c0, .int .i64 a1] w fun e w' => e = .returned (.int .i64 r) ∧ Drawn0 w w' := by
 have HR0 := Aside0.mk hr0
 have HC0 := Aside0.mk hc0
 clear hr0 hc0
 have H : (laws_heldWriteS.l0 k l0 a1 0) = some r := h
 clear h
 have H' := Aside0.mk H
 clear H
 go_enter Tryd.func90, Tryd.ntmps90
 go_wp2
 go_loopg [1, 5] k (fun kq v1 v5 w' => ∃ (x1_1 : Int) (x5_1 : Int), v1 = .int .i64 x1_1 ∧ v5 = .int .i64 x5_1 ∧ Aside0 (laws_heldWriteS.l0 kq l0 x1_1 x5_1 = some r) ∧ Aside0 (kq ≤ k) ∧ Drawn0 w w')
 case atStart => exact ⟨(a1), (0), (by first | rfl | (simp; done) | (simp [*]; done)), (by first | rfl | (simp; done) | (simp [*]; done)), H', ⟨Nat.le_refl _⟩, by repeat (first | exact Drawn0.refl _ | apply Drawn0.step)⟩
 case round =>
  clear H'
  try clear p2
  obtain ⟨x1_1, x5_1, rfl, rfl, HA, HK1, ⟨m1, rfl⟩⟩ := hrel
  cases gk with
  | zero => exact absurd HA.out (by simp [laws_heldWriteS.l0])
  | succ k1 =>
   have H := HA.out
   clear HA
   simp only [laws_heldWriteS.l0] at H
   by_cases c3 : x5_1 < (l0.length : Int)
   ·rw [if_pos c3] at H
    have c3b0 : decide (x5_1 < (l0.length : Int)) = true := decide_eq_true c3
    clear c3
    by_cases c4 : 0 ≤ x5_1
    ·rw [if_pos c4] at H
     have c4b0 : decide (0 ≤ x5_1) = true := decide_eq_true c4
     clear c4
     by_cases c5 : ((rd_T195 l0 x5_1).f0) = x1_1
     ·rw [if_pos c5] at H
      have c5b0 : (((rd_T195 l0 x5_1).f0) == x1_1) = true := beq_iff_eq.mpr c5
      have c5b1 : (((rd_T195 l0 x5_1).f0) != x1_1) = false := bne_eq_false_iff_eq.mpr c5
      clear c5
      replace H := Option.bind_eq_some_iff.mp H
      obtain ⟨t404, A60, H⟩ := H
      replace H : (if t404 < 0 then (some (-1)) else (laws_heldWriteS.l0 k1 l0 t404 (wrap64 (x5_1 + 1)))) = some r := H
      have A6 := Aside0.mk A60
      clear A60
      by_cases c7 : t404 < 0
      ·rw [if_pos c7] at H
       have c7b0 : decide (t404 < 0) = true := decide_eq_true c7
       clear c7
       obtain rfl := Option.some.inj H
       have p402 : 0 ≤ (x5_1 : Int) := of_decide_eq_true (by first | (with_reducible assumption) | assumption)
       have q402 : x5_1 < (l0.length : Int) := of_decide_eq_true (by first | (with_reducible assumption) | assumption)
       obtain ⟨ad402, A402_1, c402_1, e402, hx402_0, hx402_1, hl402_1, hi402_1⟩ := at_T195 HR0.out x5_1 p402 q402
       cases e402
       have HR402_1 := Aside0.mk hi402_1
       have HC402_1 := Aside0.mk hl402_1
       clear hi402_1 hl402_1
       replace p402 := eq_true p402
       replace q402 := eq_true q402
       have p403 : 0 ≤ (x5_1 : Int) := of_decide_eq_true (by first | (with_reducible assumption) | assumption)
       have q403 : x5_1 < (l0.length : Int) := of_decide_eq_true (by first | (with_reducible assumption) | assumption)
       obtain ⟨ad403, A403_1, c403_1, e403, hx403_0, hx403_1, hl403_1, hi403_1⟩ := at_T195 HR0.out x5_1 p403 q403
       obtain rfl : ad402 = ad403 := (by injection e403)
       have HR403_1 := Aside0.mk hi403_1
       have HC403_1 := Aside0.mk hl403_1
       clear hi403_1 hl403_1
       replace p403 := eq_true p403
       replace q403 := eq_true q403
       have ea_ := Option.some.inj (hx402_1.symm.trans hx403_1)
       injection ea_ with ea_ en_ ec_
       subst ea_
       subst ec_
       clear en_
       go_wp2_with (first | ((with_reducible refine zn (f := 89) rfl ?_); refine zx (some 27) rfl rfl Tryd.func89 (by kernel_rfl) rfl #[.slice A402_1 ((rd_T195 l0 x5_1).f1).length c402_1, .int .i64 (wrap64 (x1_1 + 1))] rfl (by (try simp only [List.map_toArray, List.map_cons, List.map_nil]); first | done | rfl | (simp only [List.length_drop, List.length_take]; rfl)) ?_; (with_reducible refine (laws_heldByteS.calls k1 _ _ ((rd_T195 l0 x5_1).f1) (wrap64 (x1_1 + 1)) t404 _ ?side1 ?side2 A6.out).mono ?_); (case side1 => repeat (first | exact HR403_1.out | (with_reducible refine Kd.C_alloc ?_ _) | (with_reducible refine Kd.C_drewN ?_ _) | (with_reducible refine Kd.C_drew ?_))); (case side2 => exact HC403_1.out); rintro e w' ⟨rfl, ⟨nd, rfl⟩⟩; refine ⟨_, rfl, ?_⟩))
       go_ret
       exact ⟨by first | rfl | (simp; done) | (simp [*]; done), by repeat (first | exact Drawn0.refl _ | apply Drawn0.step)⟩
      ·rw [if_neg c7] at H
       have c7b0 : decide (t404 < 0) = false := decide_eq_false c7
       clear c7
       have H' := Aside0.mk H
       clear H
       have p402 : 0 ≤ (x5_1 : Int) := of_decide_eq_true (by first | (with_reducible assumption) | assumption)
       have q402 : x5_1 < (l0.length : Int) := of_decide_eq_true (by first | (with_reducible assumption) | assumption)
       obtain ⟨ad402, A402_1, c402_1, e402, hx402_0, hx402_1, hl402_1, hi402_1⟩ := at_T195 HR0.out x5_1 p402 q402
       cases e402
       have HR402_1 := Aside0.mk hi402_1
       have HC402_1 := Aside0.mk hl402_1
       clear hi402_1 hl402_1
       replace p402 := eq_true p402
       replace q402 := eq_true q402
       have p403 : 0 ≤ (x5_1 : Int) := of_decide_eq_true (by first | (with_reducible assumption) | assumption)
       have q403 : x5_1 < (l0.length : Int) := of_decide_eq_true (by first | (with_reducible assumption) | assumption)
       obtain ⟨ad403, A403_1, c403_1, e403, hx403_0, hx403_1, hl403_1, hi403_1⟩ := at_T195 HR0.out x5_1 p403 q403
       obtain rfl : ad402 = ad403 := (by injection e403)
       have HR403_1 := Aside0.mk hi403_1
       have HC403_1 := Aside0.mk hl403_1
       clear hi403_1 hl403_1
       replace p403 := eq_true p403
       replace q403 := eq_true q403
       have ea_ := Option.some.inj (hx402_1.symm.trans hx403_1)
       injection ea_ with ea_ en_ ec_
       subst ea_
       subst ec_
       clear en_
       go_wp2_with (first | ((with_reducible refine zn (f := 89) rfl ?_); refine zx (some 27) rfl rfl Tryd.func89 (by kernel_rfl) rfl #[.slice A402_1 ((rd_T195 l0 x5_1).f1).length c402_1, .int .i64 (wrap64 (x1_1 + 1))] rfl (by (try simp only [List.map_toArray, List.map_cons, List.map_nil]); first | done | rfl | (simp only [List.length_drop, List.length_take]; rfl)) ?_; (with_reducible refine (laws_heldByteS.calls k1 _ _ ((rd_T195 l0 x5_1).f1) (wrap64 (x1_1 + 1)) t404 _ ?side1 ?side2 A6.out).mono ?_); (case side1 => repeat (first | exact HR403_1.out | (with_reducible refine Kd.C_alloc ?_ _) | (with_reducible refine Kd.C_drewN ?_ _) | (with_reducible refine Kd.C_drew ?_))); (case side2 => exact HC403_1.out); rintro e w' ⟨rfl, ⟨nd, rfl⟩⟩; refine ⟨_, rfl, ?_⟩))
       go_roundg k1
       case measure => have := HK1.out; omega
       case rel => exact ⟨(t404), (wrap64 (x5_1 + 1)), (by first | rfl | (simp; done) | (simp [*]; done)), (by first | rfl | (simp; done) | (simp [*]; done)), H', ⟨by have := HK1.out; omega⟩, by repeat (first | exact Drawn0.refl _ | apply Drawn0.step)⟩
     ·rw [if_neg c5] at H
      have c5b0 : (((rd_T195 l0 x5_1).f0) == x1_1) = false := beq_eq_false_iff_ne.mpr c5
      have c5b1 : (((rd_T195 l0 x5_1).f0) != x1_1) = true := bne_iff_ne.mpr c5
      obtain rfl := Option.some.inj H
      have p402 : 0 ≤ (x5_1 : Int) := of_decide_eq_true (by first | (with_reducible assumption) | assumption)
      have q402 : x5_1 < (l0.length : Int) := of_decide_eq_true (by first | (with_reducible assumption) | assumption)
      obtain ⟨ad402, A402_1, c402_1, e402, hx402_0, hx402_1, hl402_1, hi402_1⟩ := at_T195 HR0.out x5_1 p402 q402
      cases e402
      have HR402_1 := Aside0.mk hi402_1
      have HC402_1 := Aside0.mk hl402_1
      clear hi402_1 hl402_1
      replace p402 := eq_true p402
      replace q402 := eq_true q402
      go_wp2
      go_ret
      exact ⟨by first | rfl | (simp; done) | (simp [*]; done), by repeat (first | exact Drawn0.refl _ | apply Drawn0.step)⟩
    ·rw [if_neg c4] at H
     exact absurd H (by simp)
   ·rw [if_neg c3] at H
    have c3b0 : decide (x5_1 < (l0.length : Int)) = false := decide_eq_false c3
    clear c3
    obtain rfl := Option.some.inj H
    go_wp2
    go_ret
    exact ⟨by first | rfl | (simp; done) | (simp [*]; done), by repeat (first | exact Drawn0.refl _ | apply Drawn0.step)⟩

def laws_heldDisk.f (k : Nat) (l0_0 : List Int) (l0_1 : List (S195)) (a1 : Int) : Option (Int) := (laws_heldByteS.f k l0_0 a1).bind fun t406 => (if t406 < 0 then (some (-1)) else ((laws_heldWriteS.f k l0_1 t406).bind fun t407 => (if t407 < 0 then (some (-1)) else (some t407))))
theorem laws_heldDisk.mono : ∀ a0 a1 a2 k, LeO (laws_heldDisk.f k a0 a1 a2) (laws_heldDisk.f (k + 1) a0 a1 a2) := by
 intro a0 a1 a2 k
 unfold laws_heldDisk.f
 repeat' first
   | (with_reducible exact laws_heldByteS.mono _ _ _)
   | (with_reducible exact laws_heldWriteS.mono _ _ _)
   | (with_reducible exact LeO.refl _)
   | (with_reducible exact LeO.none _)
   | (with_reducible refine LeO.ite ?_ ?_)
   | (with_reducible refine LeO.bind ?_ (fun _ => ?_))
   | exact laws_heldByteS.mono _ _ _
   | exact laws_heldWriteS.mono _ _ _
   | exact LeO.none _
   | refine LeO.ite ?_ ?_
   | refine LeO.bind ?_ (fun _ => ?_)
set_option maxHeartbeats 8000000 in
set_option maxRecDepth 100000 in
theorem laws_heldDisk.calls (k : Nat) (A0_0 : Option Addr) (c0_0 : Nat) (l0_0 : List Int) (A0_1 : Option Addr) (c0_1 : Nat) (l0_1 : List (S195)) (a1 : Int) (r : Int) (w : World) (hr0_0 : Kd.C (Kd.int .u8) w A0_0 l0_0.length l0_0) (hc0_0 : l0_0.length ≤ c0_0) (hr0_1 : Kd.C k195 w A0_1 l0_1.length l0_1) (hc0_1 : l0_1.length ≤ c0_1) (h : laws_heldDisk.f k l0_0 l0_1 a1 = some r) :
  Calls Tryd.prog 29 #[.agg #[.slice A0_0 l0_0.length c0_0, .slice A0_1 l0_1.length c0_1], .int .i64 a1] w fun e w' => e = .returned (.int .i64 r) ∧ Below w.heap.size w w' := by
 have hu47 := Tryd.underlying47
 have HR0_0 := Aside0.mk hr0_0
 have HC0_0 := Aside0.mk hc0_0
 clear hr0_0 hc0_0
 have HR0_1 := Aside0.mk hr0_1
 have HC0_1 := Aside0.mk hc0_1
 clear hr0_1 hc0_1
 have HB := Aside0.mk (Below.refl w.heap.size w)
 have H : ((laws_heldByteS.f k l0_0 a1).bind fun t406 => (if t406 < 0 then (some (-1)) else ((laws_heldWriteS.f k l0_1 t406).bind fun t407 => (if t407 < 0 then (some (-1)) else (some t407))))) = some r := h
 clear h
 replace H := Option.bind_eq_some_iff.mp H
 obtain ⟨t406, A30, H⟩ := H
 replace H : (if t406 < 0 then (some (-1)) else ((laws_heldWriteS.f k l0_1 t406).bind fun t407 => (if t407 < 0 then (some (-1)) else (some t407)))) = some r := H
 have A3 := Aside0.mk A30
 clear A30
 by_cases c4 : t406 < 0
 ·rw [if_pos c4] at H
  have c4b0 : decide (t406 < 0) = true := decide_eq_true c4
  clear c4
  obtain rfl := Option.some.inj H
  go_enter Tryd.func29, Tryd.ntmps29
  go_wp2_with (first | ((with_reducible refine zr (N := 2) rfl ?_); refine zu ?hg (N := 2) ?hd (cs := #[.slice A0_0 l0_0.length c0_0, .slice A0_1 l0_1.length c0_1]) (t := 47) ?hr ?_; (case hd => rfl); (case hg => rfl); (case hr => first | (go_simp; done) | (go_simp; rfl)); intro zA hg w5 hbox hb; have n0_ := Aside0.mk (zm (by repeat (first | (with_reducible first | exact HB.out | apply zd | apply zb | apply zc) | exact HB.out)) hb); have n1_ := Aside0.mk (hbox); have n2_ := Aside0.mk ((by rw [hg]; exact (zk (by repeat (first | (with_reducible first | exact HB.out | apply zd | apply zb | apply zc) | exact HB.out))) : w.heap.size ≤ zA)); have n3_ := Aside0.mk ((by rw [hg]; exact (zk (by repeat (first | (with_reducible first | exact HB.out | apply zd | apply zb | apply zc) | exact HB.out))) : w.heap.size ≤ zA)); clear HB; have HB := n0_; have zB := n1_; have GW405 := n2_; have zC := n3_; clear n0_ n1_ n2_ n3_; clear hb hbox hg; have zL : w5.cell? ⟨zA, 0, none⟩ = some (.slice A0_0 l0_0.length c0_0) := (ze zB.out 0).trans rfl; have zM : w5.cell? ⟨zA, 1, none⟩ = some (.slice A0_1 l0_1.length c0_1) := (ze zB.out 1).trans rfl; have zN := zg zB.out 0; have zO := zg zB.out 1) | ((with_reducible refine zn (f := 89) rfl ?_); refine zx (some 8) rfl rfl Tryd.func89 (by kernel_rfl) rfl #[.slice A0_0 l0_0.length c0_0, .int .i64 a1] rfl (by (try simp only [List.map_toArray, List.map_cons, List.map_nil]); first | done | rfl | (simp only [List.length_drop, List.length_take]; rfl)) ?_; (with_reducible refine (laws_heldByteS.calls k _ _ l0_0 a1 t406 _ ?side1 ?side2 A3.out).mono ?_); (case side1 => repeat (first | exact (Kd.C_below HR0_0.out HB.out) | (with_reducible refine Kd.C_alloc ?_ _) | (with_reducible refine Kd.C_drewN ?_ _) | (with_reducible refine Kd.C_drew ?_))); (case side2 => exact HC0_0.out); rintro e w' ⟨rfl, ⟨nd, rfl⟩⟩; refine ⟨_, rfl, ?_⟩))
  go_ret
  exact ⟨by first | rfl | (simp [errW_none, errW_some] <;> rfl) | (simp [*, errW_none, errW_some] <;> rfl), by repeat (first | (with_reducible first | exact HB.out | apply zd | apply zb | apply zc | refine zh ?_ zC.out) | exact HB.out)⟩
 ·rw [if_neg c4] at H
  have c4b0 : decide (t406 < 0) = false := decide_eq_false c4
  clear c4
  replace H := Option.bind_eq_some_iff.mp H
  obtain ⟨t407, A70, H⟩ := H
  replace H : (if t407 < 0 then (some (-1)) else (some t407)) = some r := H
  have A7 := Aside0.mk A70
  clear A70
  by_cases c8 : t407 < 0
  ·rw [if_pos c8] at H
   have c8b0 : decide (t407 < 0) = true := decide_eq_true c8
   clear c8
   obtain rfl := Option.some.inj H
   go_enter Tryd.func29, Tryd.ntmps29
   go_wp2_with (first | ((with_reducible refine zr (N := 2) rfl ?_); refine zu ?hg (N := 2) ?hd (cs := #[.slice A0_0 l0_0.length c0_0, .slice A0_1 l0_1.length c0_1]) (t := 47) ?hr ?_; (case hd => rfl); (case hg => rfl); (case hr => first | (go_simp; done) | (go_simp; rfl)); intro zA hg w9 hbox hb; have n0_ := Aside0.mk (zm (by repeat (first | (with_reducible first | exact HB.out | apply zd | apply zb | apply zc) | exact HB.out)) hb); have n1_ := Aside0.mk (hbox); have n2_ := Aside0.mk ((by rw [hg]; exact (zk (by repeat (first | (with_reducible first | exact HB.out | apply zd | apply zb | apply zc) | exact HB.out))) : w.heap.size ≤ zA)); have n3_ := Aside0.mk ((by rw [hg]; exact (zk (by repeat (first | (with_reducible first | exact HB.out | apply zd | apply zb | apply zc) | exact HB.out))) : w.heap.size ≤ zA)); clear HB; have HB := n0_; have zB := n1_; have GW405 := n2_; have zC := n3_; clear n0_ n1_ n2_ n3_; clear hb hbox hg; have zD : w9.cell? ⟨zA, 0, none⟩ = some (.slice A0_0 l0_0.length c0_0) := (ze zB.out 0).trans rfl; have zE : w9.cell? ⟨zA, 1, none⟩ = some (.slice A0_1 l0_1.length c0_1) := (ze zB.out 1).trans rfl; have zF := zg zB.out 0; have zG := zg zB.out 1) | ((with_reducible refine zn (f := 89) rfl ?_); refine zx (some 8) rfl rfl Tryd.func89 (by kernel_rfl) rfl #[.slice A0_0 l0_0.length c0_0, .int .i64 a1] rfl (by (try simp only [List.map_toArray, List.map_cons, List.map_nil]); first | done | rfl | (simp only [List.length_drop, List.length_take]; rfl)) ?_; (with_reducible refine (laws_heldByteS.calls k _ _ l0_0 a1 t406 _ ?side1 ?side2 A3.out).mono ?_); (case side1 => repeat (first | exact (Kd.C_below HR0_0.out HB.out) | (with_reducible refine Kd.C_alloc ?_ _) | (with_reducible refine Kd.C_drewN ?_ _) | (with_reducible refine Kd.C_drew ?_))); (case side2 => exact HC0_0.out); rintro e w' ⟨rfl, ⟨nd, rfl⟩⟩; refine ⟨_, rfl, ?_⟩) | ((with_reducible refine zn (f := 90) rfl ?_); refine zx (some 14) rfl rfl Tryd.func90 (by kernel_rfl) rfl #[.slice A0_1 l0_1.length c0_1, .int .i64 t406] rfl (by (try simp only [List.map_toArray, List.map_cons, List.map_nil]); first | done | rfl | (simp only [List.length_drop, List.length_take]; rfl)) ?_; (with_reducible refine (laws_heldWriteS.calls k _ _ l0_1 t406 t407 _ ?side1 ?side2 A7.out).mono ?_); (case side1 => repeat (first | exact (Kd.C_below HR0_1.out (by repeat (first | (with_reducible first | exact HB.out | apply zd | apply zb | apply zc | refine zh ?_ zC.out) | exact HB.out))) | (with_reducible refine Kd.C_alloc ?_ _) | (with_reducible refine Kd.C_drewN ?_ _) | (with_reducible refine Kd.C_drew ?_))); (case side2 => exact HC0_1.out); rintro e w' ⟨rfl, ⟨nd, rfl⟩⟩; refine ⟨_, rfl, ?_⟩))
   go_ret
   exact ⟨by first | rfl | (simp [errW_none, errW_some] <;> rfl) | (simp [*, errW_none, errW_some] <;> rfl), by repeat (first | (with_reducible first | exact HB.out | apply zd | apply zb | apply zc | refine zh ?_ zC.out) | exact HB.out)⟩
  ·rw [if_neg c8] at H
   have c8b0 : decide (t407 < 0) = false := decide_eq_false c8
   clear c8
   obtain rfl := Option.some.inj H
   go_enter Tryd.func29, Tryd.ntmps29
   go_wp2_with (first | ((with_reducible refine zr (N := 2) rfl ?_); refine zu ?hg (N := 2) ?hd (cs := #[.slice A0_0 l0_0.length c0_0, .slice A0_1 l0_1.length c0_1]) (t := 47) ?hr ?_; (case hd => rfl); (case hg => rfl); (case hr => first | (go_simp; done) | (go_simp; rfl)); intro zA hg w11 hbox hb; have n0_ := Aside0.mk (zm (by repeat (first | (with_reducible first | exact HB.out | apply zd | apply zb | apply zc) | exact HB.out)) hb); have n1_ := Aside0.mk (hbox); have n2_ := Aside0.mk ((by rw [hg]; exact (zk (by repeat (first | (with_reducible first | exact HB.out | apply zd | apply zb | apply zc) | exact HB.out))) : w.heap.size ≤ zA)); have n3_ := Aside0.mk ((by rw [hg]; exact (zk (by repeat (first | (with_reducible first | exact HB.out | apply zd | apply zb | apply zc) | exact HB.out))) : w.heap.size ≤ zA)); clear HB; have HB := n0_; have zB := n1_; have GW405 := n2_; have zC := n3_; clear n0_ n1_ n2_ n3_; clear hb hbox hg; have zH : w11.cell? ⟨zA, 0, none⟩ = some (.slice A0_0 l0_0.length c0_0) := (ze zB.out 0).trans rfl; have zI : w11.cell? ⟨zA, 1, none⟩ = some (.slice A0_1 l0_1.length c0_1) := (ze zB.out 1).trans rfl; have zJ := zg zB.out 0; have zK := zg zB.out 1) | ((with_reducible refine zn (f := 89) rfl ?_); refine zx (some 8) rfl rfl Tryd.func89 (by kernel_rfl) rfl #[.slice A0_0 l0_0.length c0_0, .int .i64 a1] rfl (by (try simp only [List.map_toArray, List.map_cons, List.map_nil]); first | done | rfl | (simp only [List.length_drop, List.length_take]; rfl)) ?_; (with_reducible refine (laws_heldByteS.calls k _ _ l0_0 a1 t406 _ ?side1 ?side2 A3.out).mono ?_); (case side1 => repeat (first | exact (Kd.C_below HR0_0.out HB.out) | (with_reducible refine Kd.C_alloc ?_ _) | (with_reducible refine Kd.C_drewN ?_ _) | (with_reducible refine Kd.C_drew ?_))); (case side2 => exact HC0_0.out); rintro e w' ⟨rfl, ⟨nd, rfl⟩⟩; refine ⟨_, rfl, ?_⟩) | ((with_reducible refine zn (f := 90) rfl ?_); refine zx (some 14) rfl rfl Tryd.func90 (by kernel_rfl) rfl #[.slice A0_1 l0_1.length c0_1, .int .i64 t406] rfl (by (try simp only [List.map_toArray, List.map_cons, List.map_nil]); first | done | rfl | (simp only [List.length_drop, List.length_take]; rfl)) ?_; (with_reducible refine (laws_heldWriteS.calls k _ _ l0_1 t406 t407 _ ?side1 ?side2 A7.out).mono ?_); (case side1 => repeat (first | exact (Kd.C_below HR0_1.out (by repeat (first | (with_reducible first | exact HB.out | apply zd | apply zb | apply zc | refine zh ?_ zC.out) | exact HB.out))) | (with_reducible refine Kd.C_alloc ?_ _) | (with_reducible refine Kd.C_drewN ?_ _) | (with_reducible refine Kd.C_drew ?_))); (case side2 => exact HC0_1.out); rintro e w' ⟨rfl, ⟨nd, rfl⟩⟩; refine ⟨_, rfl, ?_⟩))
   go_ret
   exact ⟨by first | rfl | (simp [errW_none, errW_some] <;> rfl) | (simp [*, errW_none, errW_some] <;> rfl), by repeat (first | (with_reducible first | exact HB.out | apply zd | apply zb | apply zc | refine zh ?_ zC.out) | exact HB.out)⟩

def laws_FnExactFormatDisk.f (k : Nat) (a0_0 : Int) (a0_1 : Int) : Option (Bool) := (laws_toConfig.f a0_0 a0_1).bind fun bt409 => ((spec_FormatDisk.f k bt409.1 bt409.2).bind fun bt411 => ((laws_toConfig.f a0_0 a0_1).bind fun bt418 => ((impl_FormatDisk.f k bt418.1 bt418.2).bind fun bt420 => ((laws_eqDisk.f k bt420.1 bt420.2 bt411.1 bt411.2).bind fun t427 => (if t427 = true then ((laws_markDisk.f k bt420.1 bt420.2 1).bind fun bt428 => ((laws_heldDisk.f k bt428.2 bt420.2 1).bind fun t430 => (if t430 < 0 then none else (if t430 = bt428.1 then ((laws_toConfig.f a0_0 a0_1).bind fun bt431 => ((impl_FormatDisk.f k bt431.1 bt431.2).bind fun bt433 => ((laws_eqDisk.f k bt433.1 bt433.2 bt411.1 bt411.2).bind fun t440 => (if t440 = true then (some true) else none)))) else none)))) else none)))))
theorem laws_FnExactFormatDisk.mono : ∀ a0 a1 k, LeO (laws_FnExactFormatDisk.f k a0 a1) (laws_FnExactFormatDisk.f (k + 1) a0 a1) := by
 intro a0 a1 k
 unfold laws_FnExactFormatDisk.f
 repeat' first
   | (with_reducible exact impl_FormatDisk.mono _ _ _)
   | (with_reducible exact laws_eqDisk.mono _ _ _ _ _)
   | (with_reducible exact laws_heldDisk.mono _ _ _ _)
   | (with_reducible exact laws_markDisk.mono _ _ _ _)
   | (with_reducible exact spec_FormatDisk.mono _ _ _)
   | (with_reducible exact LeO.refl _)
   | (with_reducible exact LeO.none _)
   | (with_reducible refine LeO.ite ?_ ?_)
   | (with_reducible refine LeO.bind ?_ (fun _ => ?_))
   | exact impl_FormatDisk.mono _ _ _
   | exact laws_eqDisk.mono _ _ _ _ _
   | exact laws_heldDisk.mono _ _ _ _
   | exact laws_markDisk.mono _ _ _ _
   | exact spec_FormatDisk.mono _ _ _
   | exact LeO.none _
   | refine LeO.ite ?_ ?_
   | refine LeO.bind ?_ (fun _ => ?_)
set_option maxHeartbeats 8000000 in
set_option maxRecDepth 100000 in
theorem laws_FnExactFormatDisk.calls (k : Nat) (a0_0 : Int) (a0_1 : Int) (r : Bool) (w : World) (h : laws_FnExactFormatDisk.f k a0_0 a0_1 = some r) (hGMAX_ : Go.Proofs.YtjoafknckmoojaaDoorH.GFMAX w) (hGNIB_ : Go.Proofs.YtjoafknckmoojaaDoorH.GFNIB w) :
  Calls Tryd.prog 5 #[.agg #[.int .i64 a0_0, .int .i64 a0_1]] w fun e w' => e = .returned (.bool r) ∧ Below w.heap.size w w' := by
 have HGMAX_ := Aside0.mk hGMAX_
 clear hGMAX_
 have HGNIB_ := Aside0.mk hGNIB_
 clear hGNIB_
 have hu44 := Tryd.underlying44
 have hu47 := Tryd.underlying47
 have HB := Aside0.mk (Below.refl w.heap.size w)
 have H : ((laws_toConfig.f a0_0 a0_1).bind fun bt409 => ((spec_FormatDisk.f k bt409.1 bt409.2).bind fun bt411 => ((laws_toConfig.f a0_0 a0_1).bind fun bt418 => ((impl_FormatDisk.f k bt418.1 bt418.2).bind fun bt420 => ((laws_eqDisk.f k bt420.1 bt420.2 bt411.1 bt411.2).bind fun t427 => (if t427 = true then ((laws_markDisk.f k bt420.1 bt420.2 1).bind fun bt428 => ((laws_heldDisk.f k bt428.2 bt420.2 1).bind fun t430 => (if t430 < 0 then none else (if t430 = bt428.1 then ((laws_toConfig.f a0_0 a0_1).bind fun bt431 => ((impl_FormatDisk.f k bt431.1 bt431.2).bind fun bt433 => ((laws_eqDisk.f k bt433.1 bt433.2 bt411.1 bt411.2).bind fun t440 => (if t440 = true then (some true) else none)))) else none)))) else none)))))) = some r := h
 clear h
 replace H := Option.bind_eq_some_iff.mp H
 obtain ⟨⟨t409, t410⟩, A20, H⟩ := H
 replace H : ((spec_FormatDisk.f k t409 t410).bind fun bt411 => ((laws_toConfig.f a0_0 a0_1).bind fun bt418 => ((impl_FormatDisk.f k bt418.1 bt418.2).bind fun bt420 => ((laws_eqDisk.f k bt420.1 bt420.2 bt411.1 bt411.2).bind fun t427 => (if t427 = true then ((laws_markDisk.f k bt420.1 bt420.2 1).bind fun bt428 => ((laws_heldDisk.f k bt428.2 bt420.2 1).bind fun t430 => (if t430 < 0 then none else (if t430 = bt428.1 then ((laws_toConfig.f a0_0 a0_1).bind fun bt431 => ((impl_FormatDisk.f k bt431.1 bt431.2).bind fun bt433 => ((laws_eqDisk.f k bt433.1 bt433.2 bt411.1 bt411.2).bind fun t440 => (if t440 = true then (some true) else none)))) else none)))) else none))))) = some r := H
 have A2 := Aside0.mk A20
 clear A20
 replace H := Option.bind_eq_some_iff.mp H
 obtain ⟨⟨t411, t414⟩, A30, H⟩ := H
 replace H : ((laws_toConfig.f a0_0 a0_1).bind fun bt418 => ((impl_FormatDisk.f k bt418.1 bt418.2).bind fun bt420 => ((laws_eqDisk.f k bt420.1 bt420.2 t411 t414).bind fun t427 => (if t427 = true then ((laws_markDisk.f k bt420.1 bt420.2 1).bind fun bt428 => ((laws_heldDisk.f k bt428.2 bt420.2 1).bind fun t430 => (if t430 < 0 then none else (if t430 = bt428.1 then ((laws_toConfig.f a0_0 a0_1).bind fun bt431 => ((impl_FormatDisk.f k bt431.1 bt431.2).bind fun bt433 => ((laws_eqDisk.f k bt433.1 bt433.2 t411 t414).bind fun t440 => (if t440 = true then (some true) else none)))) else none)))) else none)))) = some r := H
 have A3 := Aside0.mk A30
 clear A30
 replace H := Option.bind_eq_some_iff.mp H
 obtain ⟨⟨t418, t419⟩, A40, H⟩ := H
 replace H : ((impl_FormatDisk.f k t418 t419).bind fun bt420 => ((laws_eqDisk.f k bt420.1 bt420.2 t411 t414).bind fun t427 => (if t427 = true then ((laws_markDisk.f k bt420.1 bt420.2 1).bind fun bt428 => ((laws_heldDisk.f k bt428.2 bt420.2 1).bind fun t430 => (if t430 < 0 then none else (if t430 = bt428.1 then ((laws_toConfig.f a0_0 a0_1).bind fun bt431 => ((impl_FormatDisk.f k bt431.1 bt431.2).bind fun bt433 => ((laws_eqDisk.f k bt433.1 bt433.2 t411 t414).bind fun t440 => (if t440 = true then (some true) else none)))) else none)))) else none))) = some r := H
 have A4 := Aside0.mk A40
 clear A40
 replace H := Option.bind_eq_some_iff.mp H
 obtain ⟨⟨t420, t423⟩, A50, H⟩ := H
 replace H : ((laws_eqDisk.f k t420 t423 t411 t414).bind fun t427 => (if t427 = true then ((laws_markDisk.f k t420 t423 1).bind fun bt428 => ((laws_heldDisk.f k bt428.2 t423 1).bind fun t430 => (if t430 < 0 then none else (if t430 = bt428.1 then ((laws_toConfig.f a0_0 a0_1).bind fun bt431 => ((impl_FormatDisk.f k bt431.1 bt431.2).bind fun bt433 => ((laws_eqDisk.f k bt433.1 bt433.2 t411 t414).bind fun t440 => (if t440 = true then (some true) else none)))) else none)))) else none)) = some r := H
 have A5 := Aside0.mk A50
 clear A50
 replace H := Option.bind_eq_some_iff.mp H
 obtain ⟨t427, A60, H⟩ := H
 replace H : (if t427 = true then ((laws_markDisk.f k t420 t423 1).bind fun bt428 => ((laws_heldDisk.f k bt428.2 t423 1).bind fun t430 => (if t430 < 0 then none else (if t430 = bt428.1 then ((laws_toConfig.f a0_0 a0_1).bind fun bt431 => ((impl_FormatDisk.f k bt431.1 bt431.2).bind fun bt433 => ((laws_eqDisk.f k bt433.1 bt433.2 t411 t414).bind fun t440 => (if t440 = true then (some true) else none)))) else none)))) else none) = some r := H
 have A6 := Aside0.mk A60
 clear A60
 by_cases c7 : t427 = true
 ·subst c7
  have H1 : ((laws_markDisk.f k t420 t423 1).bind fun bt428 => ((laws_heldDisk.f k bt428.2 t423 1).bind fun t430 => (if t430 < 0 then none else (if t430 = bt428.1 then ((laws_toConfig.f a0_0 a0_1).bind fun bt431 => ((impl_FormatDisk.f k bt431.1 bt431.2).bind fun bt433 => ((laws_eqDisk.f k bt433.1 bt433.2 t411 t414).bind fun t440 => (if t440 = true then (some true) else none)))) else none)))) = some r := by rw [if_pos rfl] at H; exact H
  clear H
  have H := H1
  clear H1
  replace H := Option.bind_eq_some_iff.mp H
  obtain ⟨⟨t428, t429⟩, A80, H⟩ := H
  replace H : ((laws_heldDisk.f k t429 t423 1).bind fun t430 => (if t430 < 0 then none else (if t430 = t428 then ((laws_toConfig.f a0_0 a0_1).bind fun bt431 => ((impl_FormatDisk.f k bt431.1 bt431.2).bind fun bt433 => ((laws_eqDisk.f k bt433.1 bt433.2 t411 t414).bind fun t440 => (if t440 = true then (some true) else none)))) else none))) = some r := H
  have A8 := Aside0.mk A80
  clear A80
  replace H := Option.bind_eq_some_iff.mp H
  obtain ⟨t430, A90, H⟩ := H
  replace H : (if t430 < 0 then none else (if t430 = t428 then ((laws_toConfig.f a0_0 a0_1).bind fun bt431 => ((impl_FormatDisk.f k bt431.1 bt431.2).bind fun bt433 => ((laws_eqDisk.f k bt433.1 bt433.2 t411 t414).bind fun t440 => (if t440 = true then (some true) else none)))) else none)) = some r := H
  have A9 := Aside0.mk A90
  clear A90
  by_cases c10 : t430 < 0
  ·rw [if_pos c10] at H
   have c10b0 : decide (t430 < 0) = true := decide_eq_true c10
   clear c10
   exact absurd H (by simp)
  ·rw [if_neg c10] at H
   have c10b0 : decide (t430 < 0) = false := decide_eq_false c10
   clear c10
   by_cases c35 : t430 = t428
   ·rw [if_pos c35] at H
    have c35b0 : (t430 == t428) = true := beq_iff_eq.mpr c35
    have c35b1 : (t430 != t428) = false := bne_eq_false_iff_eq.mpr c35
    clear c35
    replace H := Option.bind_eq_some_iff.mp H
    obtain ⟨⟨t431, t432⟩, A360, H⟩ := H
    replace H : ((impl_FormatDisk.f k t431 t432).bind fun bt433 => ((laws_eqDisk.f k bt433.1 bt433.2 t411 t414).bind fun t440 => (if t440 = true then (some true) else none))) = some r := H
    have A36 := Aside0.mk A360
    clear A360
    replace H := Option.bind_eq_some_iff.mp H
    obtain ⟨⟨t433, t436⟩, A370, H⟩ := H
    replace H : ((laws_eqDisk.f k t433 t436 t411 t414).bind fun t440 => (if t440 = true then (some true) else none)) = some r := H
    have A37 := Aside0.mk A370
    clear A370
    replace H := Option.bind_eq_some_iff.mp H
    obtain ⟨t440, A380, H⟩ := H
    replace H : (if t440 = true then (some true) else none) = some r := H
    have A38 := Aside0.mk A380
    clear A380
    by_cases c39 : t440 = true
    ·subst c39
     have H1 : (some true) = some r := by rw [if_pos rfl] at H; exact H
     clear H
     have H := H1
     clear H1
     obtain rfl := Option.some.inj H
     go_enter Tryd.func5, Tryd.ntmps5
     go_wp2_with (first | ((with_reducible refine zr (N := 1) rfl ?_); refine zu ?hg (N := 1) ?hd (cs := #[.int .i64 a0_0, .int .i64 a0_1]) (t := 44) ?hr ?_; (case hd => rfl); (case hg => rfl); (case hr => first | (go_simp; done) | (go_simp; rfl)); intro zH hg w40 hbox hb; have n0_ := Aside0.mk (zm (by repeat (first | (with_reducible first | exact HB.out | apply zd | apply zb | apply zc) | exact HB.out)) hb); have n1_ := Aside0.mk (hbox); have n2_ := Aside0.mk ((by rw [hg]; exact (zk (by repeat (first | (with_reducible first | exact HB.out | apply zd | apply zb | apply zc) | exact HB.out))) : w.heap.size ≤ zH)); have n3_ := Aside0.mk ((by rw [hg]; exact (zk (by repeat (first | (with_reducible first | exact HB.out | apply zd | apply zb | apply zc) | exact HB.out))) : w.heap.size ≤ zH)); clear HB; have HB := n0_; have zA := n1_; have GW408 := n2_; have zL := n3_; clear n0_ n1_ n2_ n3_; clear hb hbox hg; have zgb : w40.cell? ⟨zH, 0, none⟩ = some (.int .i64 a0_0) := (ze zA.out 0).trans rfl; have zhb : w40.cell? ⟨zH, 1, none⟩ = some (.int .i64 a0_1) := (ze zA.out 1).trans rfl; have zib := zg zA.out 0; have zjb := zg zA.out 1) | ((with_reducible refine zn (f := 25) rfl ?_); refine zx (some 9) rfl rfl Tryd.func25 (by kernel_rfl) rfl #[.agg #[.int .i64 a0_0, .int .i64 a0_1]] rfl (by (try simp only [List.map_toArray, List.map_cons, List.map_nil]); first | done | rfl | (simp only [List.length_drop, List.length_take]; rfl)) ?_; (with_reducible refine (laws_toConfig.calls a0_0 a0_1 t409 t410 _ A2.out).mono ?_); rintro e w42 ⟨rfl, hb⟩; refine ⟨_, rfl, ?_⟩; have n0_ := Aside0.mk (zo (g := zH) (o := .cells #[.int .i64 a0_0, .int .i64 a0_1] 44 (0, 0)) (by (with_reducible repeat (first | refine zj ?_ _ | refine zl ?_ | refine zi ?_ _)); exact zA.out) hb); have n1_ := Aside0.mk (zm (by repeat (first | (with_reducible first | exact HB.out | apply zd | apply zb | apply zc | refine zh ?_ zL.out) | exact HB.out)) hb); clear zA; clear HB; have zA := n0_; have HB := n1_; clear n0_ n1_; (try clear hb); (try clear hb2); (try clear hk); (try clear hi)) | ((with_reducible refine zn (f := 24) rfl ?_); refine zx (some 10) rfl rfl Tryd.func24 (by kernel_rfl) rfl #[.agg #[.int .i64 t409, .int .i64 t410]] rfl (by (try simp only [List.map_toArray, List.map_cons, List.map_nil]); first | done | rfl | (simp only [List.length_drop, List.length_take]; rfl)) ?_; (with_reducible refine (spec_FormatDisk.calls k t409 t410 t411 t414 _ A3.out).mono ?_); rintro e w43 ⟨v412, v415, rfl, zR, zS, hb⟩; refine ⟨_, rfl, ?_⟩; have n0_ := Aside0.mk (Kd.R_lower zR (zk (by repeat (first | (with_reducible first | exact HB.out | apply zd | apply zb | apply zc | refine zh ?_ zL.out) | exact HB.out)))); have n1_ := Aside0.mk (Kd.S_lower zS (zk (by repeat (first | (with_reducible first | exact HB.out | apply zd | apply zb | apply zc | refine zh ?_ zL.out) | exact HB.out)))); have n2_ := Aside0.mk (zo (g := zH) (o := .cells #[.int .i64 a0_0, .int .i64 a0_1] 44 (0, 0)) (by (with_reducible repeat (first | refine zj ?_ _ | refine zl ?_ | refine zi ?_ _)); exact zA.out) hb); have n3_ := Aside0.mk (zm (by repeat (first | (with_reducible first | exact HB.out | apply zd | apply zb | apply zc | refine zh ?_ zL.out) | exact HB.out)) hb); clear zA; clear HB; have zD := n0_; have zE := n1_; have zA := n2_; have HB := n3_; clear n0_ n1_ n2_ n3_; (try clear hb); (try clear hb2); (try clear hk); (try clear hi); (try clear zR); (try clear zS)) | ((with_reducible refine zr (N := 3) rfl ?_); refine zu ?hg (N := 3) ?hd (cs := #[.slice none 0 0, .slice none 0 0]) (t := 47) ?hr ?_; (case hd => rfl); (case hg => rfl); (case hr => first | (go_simp; done) | (go_simp; rfl)); intro zJ hg w44 hbox hb; have n0_ := Aside0.mk (Kd.R_below (by (with_reducible repeat (first | apply Kd.R_alloc | apply Kd.R_drewN | apply Kd.R_drew)); exact zD.out) hb); have n1_ := Aside0.mk (Kd.S_below (by (with_reducible repeat (first | apply Kd.S_alloc | apply Kd.S_drewN | apply Kd.S_drew)); exact zE.out) hb); have n2_ := Aside0.mk (zo (g := zH) (o := .cells #[.int .i64 a0_0, .int .i64 a0_1] 44 (0, 0)) (by (with_reducible repeat (first | refine zj ?_ _ | refine zl ?_ | refine zi ?_ _)); exact zA.out) hb); have n3_ := Aside0.mk (zm (by repeat (first | (with_reducible first | exact HB.out | apply zd | apply zb | apply zc | refine zh ?_ zL.out) | exact HB.out)) hb); have n4_ := Aside0.mk (hbox); have n5_ := Aside0.mk ((by rw [hg]; exact (zk (by repeat (first | (with_reducible first | exact HB.out | apply zd | apply zb | apply zc | refine zh ?_ zL.out) | exact HB.out))) : w.heap.size ≤ zJ)); have n6_ := Aside0.mk ((by rw [hg]; exact (zk (by repeat (first | (with_reducible first | exact HB.out | apply zd | apply zb | apply zc | refine zh ?_ zL.out) | exact HB.out))) : w.heap.size ≤ zJ)); have n7_ := Aside0.mk ((by rw [hg]; exact Nat.ne_of_lt (zw (g := zH) (o := .cells #[.int .i64 a0_0, .int .i64 a0_1] 44 (0, 0)) (by (with_reducible repeat (first | refine zj ?_ _ | refine zl ?_ | refine zi ?_ _)); exact zA.out)) : zH ≠ zJ)); have n8_ := Aside0.mk ((by rw [hg]; exact Nat.ne_of_gt (zw (g := zH) (o := .cells #[.int .i64 a0_0, .int .i64 a0_1] 44 (0, 0)) (by (with_reducible repeat (first | refine zj ?_ _ | refine zl ?_ | refine zi ?_ _)); exact zA.out)) : zJ ≠ zH)); clear zD; clear zE; clear zA; clear HB; have zD := n0_; have zE := n1_; have zA := n2_; have HB := n3_; have zB := n4_; have GW417 := n5_; have zM := n6_; have zT := n7_; have zZ := n8_; clear n0_ n1_ n2_ n3_ n4_ n5_ n6_ n7_ n8_; clear hb hbox hg; obtain ⟨Ao45, co45, eo45⟩ := Kd.R_slice zD.out; subst eo45; have zUb := zZ.out; have zVb := zT.out; have zkb : w44.cell? ⟨zJ, 0, none⟩ = some (.slice none 0 0) := (ze zB.out 0).trans rfl; have zlb : w44.cell? ⟨zJ, 1, none⟩ = some (.slice none 0 0) := (ze zB.out 1).trans rfl; have zmb := zg zB.out 0; have znb := zg zB.out 1; obtain ⟨Ao48, co48, eo48⟩ := Kd.S_slice zE.out; subst eo48; have zob : w44.cell? ⟨zH, 0, none⟩ = some (.int .i64 a0_0) := (ze zA.out 0).trans rfl; have zpb : w44.cell? ⟨zH, 1, none⟩ = some (.int .i64 a0_1) := (ze zA.out 1).trans rfl; have zqb := zg zA.out 0; have zrb := zg zA.out 1) | ((with_reducible refine zn (f := 25) rfl ?_); refine zx (some 12) rfl rfl Tryd.func25 (by kernel_rfl) rfl #[.agg #[.int .i64 a0_0, .int .i64 a0_1]] rfl (by (try simp only [List.map_toArray, List.map_cons, List.map_nil]); first | done | rfl | (simp only [List.length_drop, List.length_take]; rfl)) ?_; (with_reducible refine (laws_toConfig.calls a0_0 a0_1 t418 t419 _ A4.out).mono ?_); rintro e w50 ⟨rfl, hb⟩; refine ⟨_, rfl, ?_⟩; have n0_ := Aside0.mk (Kd.R_below (by (with_reducible repeat (first | apply Kd.R_alloc | apply Kd.R_drewN | apply Kd.R_drew)); exact (Kd.R_mono (Kd.R_far (p := ⟨zJ, 1, none⟩) (Kd.R_far (p := ⟨zJ, 0, none⟩) (Kd.R_types zD.out zB.out (by decide)) (fun _ hk => hk.2) (.slice Ao45 t411.length co45)) (fun _ hk => hk.2) (.slice Ao48 t414.length co48)) (fun _ h_ => h_.1))) hb); have n1_ := Aside0.mk (Kd.S_below (by (with_reducible repeat (first | apply Kd.S_alloc | apply Kd.S_drewN | apply Kd.S_drew)); exact (Kd.S_mono (Kd.S_far (p := ⟨zJ, 1, none⟩) (Kd.S_far (p := ⟨zJ, 0, none⟩) (Kd.S_types zE.out zB.out (by decide)) (fun _ hk => hk.2) (.slice Ao45 t411.length co45)) (fun _ hk => hk.2) (.slice Ao48 t414.length co48)) (fun _ h_ => h_.1))) hb); have n2_ := Aside0.mk (zo (g := zH) (o := .cells #[.int .i64 a0_0, .int .i64 a0_1] 44 (0, 0)) (by (with_reducible repeat (first | refine zj ?_ _ | refine zl ?_ | refine zi ?_ _)); refine blk_far ?_ zT.out _; (with_reducible repeat (first | refine zj ?_ _ | refine zl ?_ | refine zi ?_ _)); refine blk_far ?_ zT.out _; (with_reducible repeat (first | refine zj ?_ _ | refine zl ?_ | refine zi ?_ _)); exact zA.out) hb); have n3_ := Aside0.mk (zo (g := zJ) (o := .cells #[.slice Ao45 t411.length co45, .slice Ao48 t414.length co48] 47 (0, 0)) (by (with_reducible repeat (first | refine zj ?_ _ | refine zl ?_ | refine zi ?_ _)); refine zy (cs := #[.slice Ao45 t411.length co45, .slice none 0 0]) ?_ 1 _ rfl; (with_reducible repeat (first | refine zj ?_ _ | refine zl ?_ | refine zi ?_ _)); refine zy (cs := #[.slice none 0 0, .slice none 0 0]) ?_ 0 _ rfl; (with_reducible repeat (first | refine zj ?_ _ | refine zl ?_ | refine zi ?_ _)); exact zB.out) hb); have n4_ := Aside0.mk (zm (by repeat (first | (with_reducible first | exact HB.out | apply zd | apply zb | apply zc | refine zh ?_ zL.out | refine zh ?_ zM.out) | exact HB.out)) hb); clear zD; clear zE; clear zA; clear zB; clear HB; have zD := n0_; have zE := n1_; have zA := n2_; have zB := n3_; have HB := n4_; clear n0_ n1_ n2_ n3_ n4_; (try clear hb); (try clear hb2); (try clear hk); (try clear hi)) | ((with_reducible refine zn (f := 26) rfl ?_); refine zx (some 13) rfl rfl Tryd.func26 (by kernel_rfl) rfl #[.agg #[.int .i64 t418, .int .i64 t419]] rfl (by (try simp only [List.map_toArray, List.map_cons, List.map_nil]); first | done | rfl | (simp only [List.length_drop, List.length_take]; rfl)) ?_; (with_reducible refine (impl_FormatDisk.calls k t418 t419 t420 t423 _ A5.out ?globMAX_ ?globNIB_).mono ?_); (case globMAX_ => exact Go.Proofs.YtjoafknckmoojaaDoorH.GFMAX.below HGMAX_.out (by repeat (first | (with_reducible first | exact HB.out | exact Below.refl _ _ | apply zd | apply zb | apply zc | refine zh ?_ (Aside0.out (by assumption))) | exact HB.out))); (case globNIB_ => exact Go.Proofs.YtjoafknckmoojaaDoorH.GFNIB.below HGNIB_.out (by repeat (first | (with_reducible first | exact HB.out | exact Below.refl _ _ | apply zd | apply zb | apply zc | refine zh ?_ (Aside0.out (by assumption))) | exact HB.out))); rintro e w51 ⟨v421, v424, rfl, zR, zS, hb⟩; refine ⟨_, rfl, ?_⟩; have n0_ := Aside0.mk (Kd.R_elder' (by (with_reducible repeat (first | apply Kd.R_alloc | apply Kd.R_drewN | apply Kd.R_drew)); exact zD.out) (Kd.R_base zR) hb); have n1_ := Aside0.mk (Kd.S_mono (Kd.S_told (Kd.S_told (Kd.S_old (by (with_reducible repeat (first | apply Kd.S_alloc | apply Kd.S_drewN | apply Kd.S_drew)); exact zE.out) hb) (Kd.R_base zR)) (Kd.S_base zS)) (fun _ h_ => h_.1)); have n2_ := Aside0.mk (Kd.R_lower (Kd.R_new' zR (Kd.R_lt (by (with_reducible repeat (first | apply Kd.R_alloc | apply Kd.R_drewN | apply Kd.R_drew)); exact zD.out))) (zk (by repeat (first | (with_reducible first | exact HB.out | apply zd | apply zb | apply zc | refine zh ?_ zL.out | refine zh ?_ zM.out) | exact HB.out)))); have n3_ := Aside0.mk (Kd.S_lower (Kd.S_new' (Kd.S_new' zS (Kd.R_lt (by (with_reducible repeat (first | apply Kd.R_alloc | apply Kd.R_drewN | apply Kd.R_drew)); exact zD.out))) (Kd.S_lt (by (with_reducible repeat (first | apply Kd.S_alloc | apply Kd.S_drewN | apply Kd.S_drew)); exact zE.out))) (zk (by repeat (first | (with_reducible first | exact HB.out | apply zd | apply zb | apply zc | refine zh ?_ zL.out | refine zh ?_ zM.out) | exact HB.out)))); have n4_ := Aside0.mk (zo (g := zH) (o := .cells #[.int .i64 a0_0, .int .i64 a0_1] 44 (0, 0)) (by (with_reducible repeat (first | refine zj ?_ _ | refine zl ?_ | refine zi ?_ _)); exact zA.out) hb); have n5_ := Aside0.mk (zo (g := zJ) (o := .cells #[.slice Ao45 t411.length co45, .slice Ao48 t414.length co48] 47 (0, 0)) (by (with_reducible repeat (first | refine zj ?_ _ | refine zl ?_ | refine zi ?_ _)); exact zB.out) hb); have n6_ := Aside0.mk (zm (by repeat (first | (with_reducible first | exact HB.out | apply zd | apply zb | apply zc | refine zh ?_ zL.out | refine zh ?_ zM.out) | exact HB.out)) hb); clear zD; clear zE; clear zA; clear zB; clear HB; have zD := n0_; have zE := n1_; have zG := n2_; have zI := n3_; have zA := n4_; have zB := n5_; have HB := n6_; clear n0_ n1_ n2_ n3_ n4_ n5_ n6_; (try clear hb); (try clear hb2); (try clear hk); (try clear hi); (try clear zR); (try clear zS)) | ((with_reducible refine zr (N := 4) rfl ?_); refine zu ?hg (N := 4) ?hd (cs := #[.slice none 0 0, .slice none 0 0]) (t := 47) ?hr ?_; (case hd => rfl); (case hg => rfl); (case hr => first | (go_simp; done) | (go_simp; rfl)); intro zF hg w52 hbox hb; have n0_ := Aside0.mk (Kd.R_below (by (with_reducible repeat (first | apply Kd.R_alloc | apply Kd.R_drewN | apply Kd.R_drew)); exact zD.out) hb); have n1_ := Aside0.mk (Kd.S_below (by (with_reducible repeat (first | apply Kd.S_alloc | apply Kd.S_drewN | apply Kd.S_drew)); exact zE.out) hb); have n2_ := Aside0.mk (Kd.R_below (by (with_reducible repeat (first | apply Kd.R_alloc | apply Kd.R_drewN | apply Kd.R_drew)); exact zG.out) hb); have n3_ := Aside0.mk (Kd.S_below (by (with_reducible repeat (first | apply Kd.S_alloc | apply Kd.S_drewN | apply Kd.S_drew)); exact zI.out) hb); have n4_ := Aside0.mk (zo (g := zH) (o := .cells #[.int .i64 a0_0, .int .i64 a0_1] 44 (0, 0)) (by (with_reducible repeat (first | refine zj ?_ _ | refine zl ?_ | refine zi ?_ _)); exact zA.out) hb); have n5_ := Aside0.mk (zo (g := zJ) (o := .cells #[.slice Ao45 t411.length co45, .slice Ao48 t414.length co48] 47 (0, 0)) (by (with_reducible repeat (first | refine zj ?_ _ | refine zl ?_ | refine zi ?_ _)); exact zB.out) hb); have n6_ := Aside0.mk (zm (by repeat (first | (with_reducible first | exact HB.out | apply zd | apply zb | apply zc | refine zh ?_ zL.out | refine zh ?_ zM.out) | exact HB.out)) hb); have n7_ := Aside0.mk (hbox); have n8_ := Aside0.mk ((by rw [hg]; exact (zk (by repeat (first | (with_reducible first | exact HB.out | apply zd | apply zb | apply zc | refine zh ?_ zL.out | refine zh ?_ zM.out) | exact HB.out))) : w.heap.size ≤ zF)); have n9_ := Aside0.mk ((by rw [hg]; exact (zk (by repeat (first | (with_reducible first | exact HB.out | apply zd | apply zb | apply zc | refine zh ?_ zL.out | refine zh ?_ zM.out) | exact HB.out))) : w.heap.size ≤ zF)); have n10_ := Aside0.mk ((by rw [hg]; exact Nat.ne_of_lt (zw (g := zH) (o := .cells #[.int .i64 a0_0, .int .i64 a0_1] 44 (0, 0)) (by (with_reducible repeat (first | refine zj ?_ _ | refine zl ?_ | refine zi ?_ _)); exact zA.out)) : zH ≠ zF)); have n11_ := Aside0.mk ((by rw [hg]; exact Nat.ne_of_gt (zw (g := zH) (o := .cells #[.int .i64 a0_0, .int .i64 a0_1] 44 (0, 0)) (by (with_reducible repeat (first | refine zj ?_ _ | refine zl ?_ | refine zi ?_ _)); exact zA.out)) : zF ≠ zH)); have n12_ := Aside0.mk ((by rw [hg]; exact Nat.ne_of_lt (zw (g := zJ) (o := .cells #[.slice Ao45 t411.length co45, .slice Ao48 t414.length co48] 47 (0, 0)) (by (with_reducible repeat (first | refine zj ?_ _ | refine zl ?_ | refine zi ?_ _)); exact zB.out)) : zJ ≠ zF)); have n13_ := Aside0.mk ((by rw [hg]; exact Nat.ne_of_gt (zw (g := zJ) (o := .cells #[.slice Ao45 t411.length co45, .slice Ao48 t414.length co48] 47 (0, 0)) (by (with_reducible repeat (first | refine zj ?_ _ | refine zl ?_ | refine zi ?_ _)); exact zB.out)) : zF ≠ zJ)); clear zD; clear zE; clear zG; clear zI; clear zA; clear zB; clear HB; have zD := n0_; have zE := n1_; have zG := n2_; have zI := n3_; have zA := n4_; have zB := n5_; have HB := n6_; have zC := n7_; have GW426 := n8_; have zO := n9_; have zU := n10_; have zab := n11_; have zV := n12_; have zbb := n13_; clear n0_ n1_ n2_ n3_ n4_ n5_ n6_ n7_ n8_ n9_ n10_ n11_ n12_ n13_; clear hb hbox hg; obtain ⟨Ao53, co53, eo53⟩ := Kd.R_slice zG.out; subst eo53; have zWb := zab.out; have zXb := zU.out; have zYb := zbb.out; have zZb := zV.out; have zsb : w52.cell? ⟨zF, 0, none⟩ = some (.slice none 0 0) := (ze zC.out 0).trans rfl; have ztb : w52.cell? ⟨zF, 1, none⟩ = some (.slice none 0 0) := (ze zC.out 1).trans rfl; have zub := zg zC.out 0; have zvb := zg zC.out 1; obtain ⟨Ao57, co57, eo57⟩ := Kd.S_slice zI.out; subst eo57; have zwb : w52.cell? ⟨zJ, 0, none⟩ = some (.slice Ao45 t411.length co45) := (ze zB.out 0).trans rfl; have zxb : w52.cell? ⟨zJ, 1, none⟩ = some (.slice Ao48 t414.length co48) := (ze zB.out 1).trans rfl; have zyb := zg zB.out 0; have zzb := zg zB.out 1) | ((with_reducible refine zn (f := 27) rfl ?_); refine zx (some 16) rfl rfl Tryd.func27 (by kernel_rfl) rfl #[.agg #[.slice Ao53 t420.length co53, .slice Ao57 t423.length co57], .agg #[.slice Ao45 t411.length co45, .slice Ao48 t414.length co48]] rfl (by (try simp only [List.map_toArray, List.map_cons, List.map_nil]); first | done | rfl | (simp only [List.length_drop, List.length_take]; rfl)) ?_; (with_reducible refine (laws_eqDisk.calls k _ _ t420 _ _ t423 _ _ t411 _ _ t414 true _ ?side1 ?side2 ?side3 ?side4 ?side5 ?side6 ?side7 ?side8 A6.out).mono ?_); (case side1 => refine (Kd.R_reads' (e := 5) (base := w.heap.size) (ok := fun k_ => (True ∧ some k_ ≠ (.slice Ao45 t411.length co45 : Value).ownBlock)) (n := t420.length) (c := co53) ?_).2.2; exact (by (with_reducible repeat (first | apply Kd.R_alloc | apply Kd.R_drewN | apply Kd.R_drew)); exact (Kd.R_mono (Kd.R_far (p := ⟨zF, 1, none⟩) (Kd.R_far (p := ⟨zF, 0, none⟩) (Kd.R_types zG.out zC.out (by decide)) (fun _ hk => hk.2) (.slice Ao53 t420.length co53)) (fun _ hk => hk.2) (.slice Ao57 t423.length co57)) (fun _ h_ => h_.1)))); (case side2 => exact (Kd.R_reads' zG.out).2.1); (case side3 => refine (Kd.S_reads' (e := 195) (base := w.heap.size) (ok := fun k_ => ((some k_ ≠ (.slice Ao53 t420.length co53 : Value).ownBlock ∧ some k_ ≠ (.slice Ao45 t411.length co45 : Value).ownBlock) ∧ some k_ ≠ (.slice Ao48 t414.length co48 : Value).ownBlock)) (n := t423.length) (c := co57) ?_).2.2; exact (by (with_reducible repeat (first | apply Kd.S_alloc | apply Kd.S_drewN | apply Kd.S_drew)); exact (Kd.S_mono (Kd.S_far (p := ⟨zF, 1, none⟩) (Kd.S_far (p := ⟨zF, 0, none⟩) (Kd.S_types zI.out zC.out (by decide)) (fun _ hk => hk.2) (.slice Ao53 t420.length co53)) (fun _ hk => hk.2) (.slice Ao57 t423.length co57)) (fun _ h_ => h_.1)))); (case side4 => exact (Kd.S_reads' zI.out).2.1); (case side5 => refine (Kd.R_reads' (e := 5) (base := w.heap.size) (ok := fun k_ => (True ∧ some k_ ≠ (.slice Ao53 t420.length co53 : Value).ownBlock)) (n := t411.length) (c := co45) ?_).2.2; exact (by (with_reducible repeat (first | apply Kd.R_alloc | apply Kd.R_drewN | apply Kd.R_drew)); exact (Kd.R_mono (Kd.R_far (p := ⟨zF, 1, none⟩) (Kd.R_far (p := ⟨zF, 0, none⟩) (Kd.R_types zD.out zC.out (by decide)) (fun _ hk => hk.2) (.slice Ao53 t420.length co53)) (fun _ hk => hk.2) (.slice Ao57 t423.length co57)) (fun _ h_ => h_.1)))); (case side6 => exact (Kd.R_reads' zD.out).2.1); (case side7 => refine (Kd.S_reads' (e := 195) (base := w.heap.size) (ok := fun k_ => ((some k_ ≠ (.slice Ao45 t411.length co45 : Value).ownBlock ∧ some k_ ≠ (.slice Ao53 t420.length co53 : Value).ownBlock) ∧ some k_ ≠ (.slice Ao57 t423.length co57 : Value).ownBlock)) (n := t414.length) (c := co48) ?_).2.2; exact (by (with_reducible repeat (first | apply Kd.S_alloc | apply Kd.S_drewN | apply Kd.S_drew)); exact (Kd.S_mono (Kd.S_far (p := ⟨zF, 1, none⟩) (Kd.S_far (p := ⟨zF, 0, none⟩) (Kd.S_types zE.out zC.out (by decide)) (fun _ hk => hk.2) (.slice Ao53 t420.length co53)) (fun _ hk => hk.2) (.slice Ao57 t423.length co57)) (fun _ h_ => h_.1)))); (case side8 => exact (Kd.S_reads' zE.out).2.1); rintro e w59 ⟨rfl, hb⟩; refine ⟨_, rfl, ?_⟩; have n0_ := Aside0.mk (Kd.R_below (by (with_reducible repeat (first | apply Kd.R_alloc | apply Kd.R_drewN | apply Kd.R_drew)); exact (Kd.R_mono (Kd.R_far (p := ⟨zF, 1, none⟩) (Kd.R_far (p := ⟨zF, 0, none⟩) (Kd.R_types zD.out zC.out (by decide)) (fun _ hk => hk.2) (.slice Ao53 t420.length co53)) (fun _ hk => hk.2) (.slice Ao57 t423.length co57)) (fun _ h_ => h_.1))) hb); have n1_ := Aside0.mk (Kd.S_below (by (with_reducible repeat (first | apply Kd.S_alloc | apply Kd.S_drewN | apply Kd.S_drew)); exact (Kd.S_mono (Kd.S_far (p := ⟨zF, 1, none⟩) (Kd.S_far (p := ⟨zF, 0, none⟩) (Kd.S_types zE.out zC.out (by decide)) (fun _ hk => hk.2) (.slice Ao53 t420.length co53)) (fun _ hk => hk.2) (.slice Ao57 t423.length co57)) (fun _ h_ => h_.1))) hb); have n2_ := Aside0.mk (Kd.R_below (by (with_reducible repeat (first | apply Kd.R_alloc | apply Kd.R_drewN | apply Kd.R_drew)); exact (Kd.R_mono (Kd.R_far (p := ⟨zF, 1, none⟩) (Kd.R_far (p := ⟨zF, 0, none⟩) (Kd.R_types zG.out zC.out (by decide)) (fun _ hk => hk.2) (.slice Ao53 t420.length co53)) (fun _ hk => hk.2) (.slice Ao57 t423.length co57)) (fun _ h_ => h_.1))) hb); have n3_ := Aside0.mk (Kd.S_below (by (with_reducible repeat (first | apply Kd.S_alloc | apply Kd.S_drewN | apply Kd.S_drew)); exact (Kd.S_mono (Kd.S_far (p := ⟨zF, 1, none⟩) (Kd.S_far (p := ⟨zF, 0, none⟩) (Kd.S_types zI.out zC.out (by decide)) (fun _ hk => hk.2) (.slice Ao53 t420.length co53)) (fun _ hk => hk.2) (.slice Ao57 t423.length co57)) (fun _ h_ => h_.1))) hb); have n4_ := Aside0.mk (zo (g := zH) (o := .cells #[.int .i64 a0_0, .int .i64 a0_1] 44 (0, 0)) (by (with_reducible repeat (first | refine zj ?_ _ | refine zl ?_ | refine zi ?_ _)); refine blk_far ?_ zU.out _; (with_reducible repeat (first | refine zj ?_ _ | refine zl ?_ | refine zi ?_ _)); refine blk_far ?_ zU.out _; (with_reducible repeat (first | refine zj ?_ _ | refine zl ?_ | refine zi ?_ _)); exact zA.out) hb); have n5_ := Aside0.mk (zo (g := zJ) (o := .cells #[.slice Ao45 t411.length co45, .slice Ao48 t414.length co48] 47 (0, 0)) (by (with_reducible repeat (first | refine zj ?_ _ | refine zl ?_ | refine zi ?_ _)); refine blk_far ?_ zV.out _; (with_reducible repeat (first | refine zj ?_ _ | refine zl ?_ | refine zi ?_ _)); refine blk_far ?_ zV.out _; (with_reducible repeat (first | refine zj ?_ _ | refine zl ?_ | refine zi ?_ _)); exact zB.out) hb); have n6_ := Aside0.mk (zo (g := zF) (o := .cells #[.slice Ao53 t420.length co53, .slice Ao57 t423.length co57] 47 (0, 0)) (by (with_reducible repeat (first | refine zj ?_ _ | refine zl ?_ | refine zi ?_ _)); refine zy (cs := #[.slice Ao53 t420.length co53, .slice none 0 0]) ?_ 1 _ rfl; (with_reducible repeat (first | refine zj ?_ _ | refine zl ?_ | refine zi ?_ _)); refine zy (cs := #[.slice none 0 0, .slice none 0 0]) ?_ 0 _ rfl; (with_reducible repeat (first | refine zj ?_ _ | refine zl ?_ | refine zi ?_ _)); exact zC.out) hb); have n7_ := Aside0.mk (zm (by repeat (first | (with_reducible first | exact HB.out | apply zd | apply zb | apply zc | refine zh ?_ zL.out | refine zh ?_ zM.out | refine zh ?_ zO.out) | exact HB.out)) hb); clear zD; clear zE; clear zG; clear zI; clear zA; clear zB; clear zC; clear HB; have zD := n0_; have zE := n1_; have zG := n2_; have zI := n3_; have zA := n4_; have zB := n5_; have zC := n6_; have HB := n7_; clear n0_ n1_ n2_ n3_ n4_ n5_ n6_ n7_; (try clear hb); (try clear hb2); (try clear hk); (try clear hi); have zAb : w59.cell? ⟨zF, 0, none⟩ = some (.slice Ao53 t420.length co53) := (ze zC.out 0).trans rfl; have zBb : w59.cell? ⟨zF, 1, none⟩ = some (.slice Ao57 t423.length co57) := (ze zC.out 1).trans rfl; have zCb := zg zC.out 0; have zDb := zg zC.out 1) | ((with_reducible refine zn (f := 28) rfl ?_); refine zx (some 20) rfl rfl Tryd.func28 (by kernel_rfl) rfl #[.agg #[.slice Ao53 t420.length co53, .slice Ao57 t423.length co57], .int .i64 1] rfl (by (try simp only [List.map_toArray, List.map_cons, List.map_nil]); first | done | rfl | (simp only [List.length_drop, List.length_take]; rfl)) ?_; (with_reducible refine (laws_markDisk.calls k (fun k_ => some k_ = (.slice Ao53 t420.length co53 : Value).ownBlock) (.slice Ao53 t420.length co53) t420 _ _ t423 1 t428 t429 w _ ?side1 ?side2 ?side3 ?side4 A8.out).mono ?_); (case side1 => repeat (first | (with_reducible first | exact HB.out | apply zd | apply zb | apply zc | refine zh ?_ zL.out | refine zh ?_ zM.out | refine zh ?_ zO.out) | exact HB.out)); (case side2 => exact Kd.R_tight rfl zG.out); (case side3 => exact Kd.C_kept_own ((Kd.S_R zI.out)) (fun k_ hk_ hs_ => (hk_.1.1) hs_)); (case side4 => exact (Kd.S_reads' zI.out).2.1); rintro e w61 ⟨rfl, hy0, hb, hkp⟩; refine ⟨_, rfl, ?_⟩; have n0_ := Aside0.mk (blk_kept (by (with_reducible repeat (first | refine zj ?_ _ | refine zl ?_ | refine zi ?_ _)); exact zA.out) hkp (fun hs_ => (fun e_ => (Kd.R_ne zG.out zA.out (by decide)) e_) hs_)); have n1_ := Aside0.mk (Kd.R_mono (ok' := fun k_ => some k_ ≠ (.slice Ao53 t420.length co53 : Value).ownBlock) (Kd.R_keptB (zD.out) hkp (fun k_ hk_ hs_ => by first | exact (hk_.2) hs_ | exact hk_.1 hs_ | exact hk_.2 hs_ | exact hk_.1.1 hs_ | exact hk_.1.2 hs_ | exact hk_.2.1 hs_ | exact hk_.2.2 hs_)) (fun k_ hk_ => by first | exact hk_.1.2 | exact hk_.1 | exact ⟨hk_.1.1, hk_.1.2⟩ | exact ⟨hk_.1.2, hk_.1.1⟩ | exact hk_.1.1 | exact hk_.1.2)); have n2_ := Aside0.mk (Kd.S_mono (ok' := fun k_ => some k_ ≠ (.slice Ao45 t411.length co45 : Value).ownBlock ∧ some k_ ≠ (.slice Ao53 t420.length co53 : Value).ownBlock ∧ some k_ ≠ (.slice Ao57 t423.length co57 : Value).ownBlock) (Kd.S_keptB (zE.out) hkp (fun k_ hk_ hs_ => by first | exact (hk_.1.2) hs_ | exact hk_.1 hs_ | exact hk_.2 hs_ | exact hk_.1.1 hs_ | exact hk_.1.2 hs_ | exact hk_.2.1 hs_ | exact hk_.2.2 hs_)) (fun k_ hk_ => by first | exact ⟨hk_.1.1.1, hk_.1.1.2, hk_.1.2⟩ | exact hk_.1 | exact ⟨hk_.1.1, hk_.1.2⟩ | exact ⟨hk_.1.2, hk_.1.1⟩ | exact hk_.1.1 | exact hk_.1.2)); have n3_ := Aside0.mk (blk_kept (by (with_reducible repeat (first | refine zj ?_ _ | refine zl ?_ | refine zi ?_ _)); exact zB.out) hkp (fun hs_ => (fun e_ => (Kd.R_ne zG.out zB.out (by decide)) e_) hs_)); have n4_ := Aside0.mk (Kd.R_reok rfl hy0 (fun k_ e_ => zG.out.1 k_ e_)); have n5_ := Aside0.mk (Kd.S_mono (ok' := fun k_ => some k_ ≠ (.slice Ao45 t411.length co45 : Value).ownBlock ∧ some k_ ≠ (.slice Ao48 t414.length co48 : Value).ownBlock ∧ some k_ ≠ (.slice Ao53 t420.length co53 : Value).ownBlock) (Kd.S_keptB (zI.out) hkp (fun k_ hk_ hs_ => by first | exact (hk_.1.1) hs_ | exact hk_.1 hs_ | exact hk_.2 hs_ | exact hk_.1.1 hs_ | exact hk_.1.2 hs_ | exact hk_.2.1 hs_ | exact hk_.2.2 hs_)) (fun k_ hk_ => by first | exact ⟨hk_.1.1.2, hk_.1.2, hk_.1.1.1⟩ | exact hk_.1 | exact ⟨hk_.1.1, hk_.1.2⟩ | exact ⟨hk_.1.2, hk_.1.1⟩ | exact hk_.1.1 | exact hk_.1.2)); have n6_ := Aside0.mk (blk_kept (by (with_reducible repeat (first | refine zj ?_ _ | refine zl ?_ | refine zi ?_ _)); exact zC.out) hkp (fun hs_ => (fun e_ => (Kd.R_ne zG.out zC.out (by decide)) e_) hs_)); have n7_ := Aside0.mk (hb); clear zA; clear zD; clear zE; clear zB; clear zG; clear zI; clear zC; clear HB; have zA := n0_; have zD := n1_; have zE := n2_; have zB := n3_; have zG := n4_; have zI := n5_; have zC := n6_; have HB := n7_; clear n0_ n1_ n2_ n3_ n4_ n5_ n6_ n7_; (try clear hb); (try clear hkp); (try clear hy0); have zEb : w61.cell? ⟨zF, 0, none⟩ = some (.slice Ao53 t420.length co53) := (ze zC.out 0).trans rfl; have zFb : w61.cell? ⟨zF, 1, none⟩ = some (.slice Ao57 t423.length co57) := (ze zC.out 1).trans rfl; have zGb := zg zC.out 0; have zHb := zg zC.out 1) | ((with_reducible refine zn (f := 29) rfl ?_); refine zx (some 23) rfl rfl Tryd.func29 (by kernel_rfl) rfl #[.agg #[.slice Ao53 t429.length co53, .slice Ao57 t423.length co57], .int .i64 1] rfl (by (try simp only [List.map_toArray, List.map_cons, List.map_nil]); first | done | (rw [show t429.length = t420.length from (Kd.R_reads' zG.out).1.symm] <;> rfl) | rfl | (simp only [List.length_drop, List.length_take]; rfl)) ?_; (with_reducible refine (laws_heldDisk.calls k _ _ t429 _ _ t423 1 t430 _ ?side1 ?side2 ?side3 ?side4 A9.out).mono ?_); (case side1 => repeat (first | exact (Kd.R_reads' zG.out).2.2 | (with_reducible refine Kd.C_alloc ?_ _) | (with_reducible refine Kd.C_drewN ?_ _) | (with_reducible refine Kd.C_drew ?_))); (case side2 => rw [show t429.length = t420.length from (Kd.R_reads' zG.out).1.symm]; exact (Kd.R_reads' zG.out).2.1); (case side3 => repeat (first | exact (Kd.S_reads' zI.out).2.2 | (with_reducible refine Kd.C_alloc ?_ _) | (with_reducible refine Kd.C_drewN ?_ _) | (with_reducible refine Kd.C_drew ?_))); (case side4 => exact (Kd.S_reads' zI.out).2.1); rintro e w63 ⟨rfl, hb⟩; refine ⟨_, rfl, ?_⟩; have n0_ := Aside0.mk (Kd.R_below (by (with_reducible repeat (first | apply Kd.R_alloc | apply Kd.R_drewN | apply Kd.R_drew)); exact zD.out) hb); have n1_ := Aside0.mk (Kd.S_below (by (with_reducible repeat (first | apply Kd.S_alloc | apply Kd.S_drewN | apply Kd.S_drew)); exact zE.out) hb); have n2_ := Aside0.mk (Kd.R_below (by (with_reducible repeat (first | apply Kd.R_alloc | apply Kd.R_drewN | apply Kd.R_drew)); exact zG.out) hb); have n3_ := Aside0.mk (Kd.S_below (by (with_reducible repeat (first | apply Kd.S_alloc | apply Kd.S_drewN | apply Kd.S_drew)); exact zI.out) hb); have n4_ := Aside0.mk (zo (g := zH) (o := .cells #[.int .i64 a0_0, .int .i64 a0_1] 44 (0, 0)) (by (with_reducible repeat (first | refine zj ?_ _ | refine zl ?_ | refine zi ?_ _)); exact zA.out) hb); have n5_ := Aside0.mk (zo (g := zJ) (o := .cells #[.slice Ao45 t411.length co45, .slice Ao48 t414.length co48] 47 (0, 0)) (by (with_reducible repeat (first | refine zj ?_ _ | refine zl ?_ | refine zi ?_ _)); exact zB.out) hb); have n6_ := Aside0.mk (zo (g := zF) (o := .cells #[.slice Ao53 t420.length co53, .slice Ao57 t423.length co57] 47 (0, 0)) (by (with_reducible repeat (first | refine zj ?_ _ | refine zl ?_ | refine zi ?_ _)); exact zC.out) hb); have n7_ := Aside0.mk (zm (by repeat (first | (with_reducible first | exact HB.out | apply zd | apply zb | apply zc | refine zh ?_ zL.out | refine zh ?_ zM.out | refine zh ?_ zO.out) | exact HB.out)) hb); clear zD; clear zE; clear zG; clear zI; clear zA; clear zB; clear zC; clear HB; have zD := n0_; have zE := n1_; have zG := n2_; have zI := n3_; have zA := n4_; have zB := n5_; have zC := n6_; have HB := n7_; clear n0_ n1_ n2_ n3_ n4_ n5_ n6_ n7_; (try clear hb); (try clear hb2); (try clear hk); (try clear hi); have zIb : w63.cell? ⟨zH, 0, none⟩ = some (.int .i64 a0_0) := (ze zA.out 0).trans rfl; have zJb : w63.cell? ⟨zH, 1, none⟩ = some (.int .i64 a0_1) := (ze zA.out 1).trans rfl; have zKb := zg zA.out 0; have zLb := zg zA.out 1) | ((with_reducible refine zn (f := 25) rfl ?_); refine zx (some 30) rfl rfl Tryd.func25 (by kernel_rfl) rfl #[.agg #[.int .i64 a0_0, .int .i64 a0_1]] rfl (by (try simp only [List.map_toArray, List.map_cons, List.map_nil]); first | done | rfl | (simp only [List.length_drop, List.length_take]; rfl)) ?_; (with_reducible refine (laws_toConfig.calls a0_0 a0_1 t431 t432 _ A36.out).mono ?_); rintro e w65 ⟨rfl, hb⟩; refine ⟨_, rfl, ?_⟩; have n0_ := Aside0.mk (Kd.R_below (by (with_reducible repeat (first | apply Kd.R_alloc | apply Kd.R_drewN | apply Kd.R_drew)); exact zD.out) hb); have n1_ := Aside0.mk (Kd.S_below (by (with_reducible repeat (first | apply Kd.S_alloc | apply Kd.S_drewN | apply Kd.S_drew)); exact zE.out) hb); have n2_ := Aside0.mk (Kd.R_below (by (with_reducible repeat (first | apply Kd.R_alloc | apply Kd.R_drewN | apply Kd.R_drew)); exact zG.out) hb); have n3_ := Aside0.mk (Kd.S_below (by (with_reducible repeat (first | apply Kd.S_alloc | apply Kd.S_drewN | apply Kd.S_drew)); exact zI.out) hb); have n4_ := Aside0.mk (zo (g := zH) (o := .cells #[.int .i64 a0_0, .int .i64 a0_1] 44 (0, 0)) (by (with_reducible repeat (first | refine zj ?_ _ | refine zl ?_ | refine zi ?_ _)); exact zA.out) hb); have n5_ := Aside0.mk (zo (g := zJ) (o := .cells #[.slice Ao45 t411.length co45, .slice Ao48 t414.length co48] 47 (0, 0)) (by (with_reducible repeat (first | refine zj ?_ _ | refine zl ?_ | refine zi ?_ _)); exact zB.out) hb); have n6_ := Aside0.mk (zo (g := zF) (o := .cells #[.slice Ao53 t420.length co53, .slice Ao57 t423.length co57] 47 (0, 0)) (by (with_reducible repeat (first | refine zj ?_ _ | refine zl ?_ | refine zi ?_ _)); exact zC.out) hb); have n7_ := Aside0.mk (zm (by repeat (first | (with_reducible first | exact HB.out | apply zd | apply zb | apply zc | refine zh ?_ zL.out | refine zh ?_ zM.out | refine zh ?_ zO.out) | exact HB.out)) hb); clear zD; clear zE; clear zG; clear zI; clear zA; clear zB; clear zC; clear HB; have zD := n0_; have zE := n1_; have zG := n2_; have zI := n3_; have zA := n4_; have zB := n5_; have zC := n6_; have HB := n7_; clear n0_ n1_ n2_ n3_ n4_ n5_ n6_ n7_; (try clear hb); (try clear hb2); (try clear hk); (try clear hi)) | ((with_reducible refine zn (f := 26) rfl ?_); refine zx (some 31) rfl rfl Tryd.func26 (by kernel_rfl) rfl #[.agg #[.int .i64 t431, .int .i64 t432]] rfl (by (try simp only [List.map_toArray, List.map_cons, List.map_nil]); first | done | rfl | (simp only [List.length_drop, List.length_take]; rfl)) ?_; (with_reducible refine (impl_FormatDisk.calls k t431 t432 t433 t436 _ A37.out ?globMAX_ ?globNIB_).mono ?_); (case globMAX_ => exact Go.Proofs.YtjoafknckmoojaaDoorH.GFMAX.below HGMAX_.out (by repeat (first | (with_reducible first | exact HB.out | exact Below.refl _ _ | apply zd | apply zb | apply zc | refine zh ?_ (Aside0.out (by assumption))) | exact HB.out))); (case globNIB_ => exact Go.Proofs.YtjoafknckmoojaaDoorH.GFNIB.below HGNIB_.out (by repeat (first | (with_reducible first | exact HB.out | exact Below.refl _ _ | apply zd | apply zb | apply zc | refine zh ?_ (Aside0.out (by assumption))) | exact HB.out))); rintro e w66 ⟨v434, v437, rfl, zR, zS, hb⟩; refine ⟨_, rfl, ?_⟩; have n0_ := Aside0.mk (Kd.R_elder' (by (with_reducible repeat (first | apply Kd.R_alloc | apply Kd.R_drewN | apply Kd.R_drew)); exact zD.out) (Kd.R_base zR) hb); have n1_ := Aside0.mk (Kd.S_mono (Kd.S_told (Kd.S_told (Kd.S_old (by (with_reducible repeat (first | apply Kd.S_alloc | apply Kd.S_drewN | apply Kd.S_drew)); exact zE.out) hb) (Kd.R_base zR)) (Kd.S_base zS)) (fun _ h_ => h_.1)); have n2_ := Aside0.mk (Kd.R_elder' (by (with_reducible repeat (first | apply Kd.R_alloc | apply Kd.R_drewN | apply Kd.R_drew)); exact zG.out) (Kd.R_base zR) hb); have n3_ := Aside0.mk (Kd.S_mono (Kd.S_told (Kd.S_told (Kd.S_old (by (with_reducible repeat (first | apply Kd.S_alloc | apply Kd.S_drewN | apply Kd.S_drew)); exact zI.out) hb) (Kd.R_base zR)) (Kd.S_base zS)) (fun _ h_ => h_.1)); have n4_ := Aside0.mk (Kd.R_lower (Kd.R_new' (Kd.R_new' zR (Kd.R_lt (by (with_reducible repeat (first | apply Kd.R_alloc | apply Kd.R_drewN | apply Kd.R_drew)); exact zD.out))) (Kd.R_lt (by (with_reducible repeat (first | apply Kd.R_alloc | apply Kd.R_drewN | apply Kd.R_drew)); exact zG.out))) (zk (by repeat (first | (with_reducible first | exact HB.out | apply zd | apply zb | apply zc | refine zh ?_ zL.out | refine zh ?_ zM.out | refine zh ?_ zO.out) | exact HB.out)))); have n5_ := Aside0.mk (Kd.S_lower (Kd.S_new' (Kd.S_new' (Kd.S_new' (Kd.S_new' zS (Kd.R_lt (by (with_reducible repeat (first | apply Kd.R_alloc | apply Kd.R_drewN | apply Kd.R_drew)); exact zD.out))) (Kd.S_lt (by (with_reducible repeat (first | apply Kd.S_alloc | apply Kd.S_drewN | apply Kd.S_drew)); exact zE.out))) (Kd.R_lt (by (with_reducible repeat (first | apply Kd.R_alloc | apply Kd.R_drewN | apply Kd.R_drew)); exact zG.out))) (Kd.S_lt (by (with_reducible repeat (first | apply Kd.S_alloc | apply Kd.S_drewN | apply Kd.S_drew)); exact zI.out))) (zk (by repeat (first | (with_reducible first | exact HB.out | apply zd | apply zb | apply zc | refine zh ?_ zL.out | refine zh ?_ zM.out | refine zh ?_ zO.out) | exact HB.out)))); have n6_ := Aside0.mk (zo (g := zH) (o := .cells #[.int .i64 a0_0, .int .i64 a0_1] 44 (0, 0)) (by (with_reducible repeat (first | refine zj ?_ _ | refine zl ?_ | refine zi ?_ _)); exact zA.out) hb); have n7_ := Aside0.mk (zo (g := zJ) (o := .cells #[.slice Ao45 t411.length co45, .slice Ao48 t414.length co48] 47 (0, 0)) (by (with_reducible repeat (first | refine zj ?_ _ | refine zl ?_ | refine zi ?_ _)); exact zB.out) hb); have n8_ := Aside0.mk (zo (g := zF) (o := .cells #[.slice Ao53 t420.length co53, .slice Ao57 t423.length co57] 47 (0, 0)) (by (with_reducible repeat (first | refine zj ?_ _ | refine zl ?_ | refine zi ?_ _)); exact zC.out) hb); have n9_ := Aside0.mk (zm (by repeat (first | (with_reducible first | exact HB.out | apply zd | apply zb | apply zc | refine zh ?_ zL.out | refine zh ?_ zM.out | refine zh ?_ zO.out) | exact HB.out)) hb); clear zD; clear zE; clear zG; clear zI; clear zA; clear zB; clear zC; clear HB; have zD := n0_; have zE := n1_; have zG := n2_; have zI := n3_; have zP := n4_; have zQ := n5_; have zA := n6_; have zB := n7_; have zC := n8_; have HB := n9_; clear n0_ n1_ n2_ n3_ n4_ n5_ n6_ n7_ n8_ n9_; (try clear hb); (try clear hb2); (try clear hk); (try clear hi); (try clear zR); (try clear zS)) | ((with_reducible refine zr (N := 7) rfl ?_); refine zu ?hg (N := 7) ?hd (cs := #[.slice none 0 0, .slice none 0 0]) (t := 47) ?hr ?_; (case hd => rfl); (case hg => rfl); (case hr => first | (go_simp; done) | (go_simp; rfl)); intro zK hg w67 hbox hb; have n0_ := Aside0.mk (Kd.R_below (by (with_reducible repeat (first | apply Kd.R_alloc | apply Kd.R_drewN | apply Kd.R_drew)); exact zD.out) hb); have n1_ := Aside0.mk (Kd.S_below (by (with_reducible repeat (first | apply Kd.S_alloc | apply Kd.S_drewN | apply Kd.S_drew)); exact zE.out) hb); have n2_ := Aside0.mk (Kd.R_below (by (with_reducible repeat (first | apply Kd.R_alloc | apply Kd.R_drewN | apply Kd.R_drew)); exact zG.out) hb); have n3_ := Aside0.mk (Kd.S_below (by (with_reducible repeat (first | apply Kd.S_alloc | apply Kd.S_drewN | apply Kd.S_drew)); exact zI.out) hb); have n4_ := Aside0.mk (Kd.R_below (by (with_reducible repeat (first | apply Kd.R_alloc | apply Kd.R_drewN | apply Kd.R_drew)); exact zP.out) hb); have n5_ := Aside0.mk (Kd.S_below (by (with_reducible repeat (first | apply Kd.S_alloc | apply Kd.S_drewN | apply Kd.S_drew)); exact zQ.out) hb); have n6_ := Aside0.mk (zo (g := zH) (o := .cells #[.int .i64 a0_0, .int .i64 a0_1] 44 (0, 0)) (by (with_reducible repeat (first | refine zj ?_ _ | refine zl ?_ | refine zi ?_ _)); exact zA.out) hb); have n7_ := Aside0.mk (zo (g := zJ) (o := .cells #[.slice Ao45 t411.length co45, .slice Ao48 t414.length co48] 47 (0, 0)) (by (with_reducible repeat (first | refine zj ?_ _ | refine zl ?_ | refine zi ?_ _)); exact zB.out) hb); have n8_ := Aside0.mk (zo (g := zF) (o := .cells #[.slice Ao53 t420.length co53, .slice Ao57 t423.length co57] 47 (0, 0)) (by (with_reducible repeat (first | refine zj ?_ _ | refine zl ?_ | refine zi ?_ _)); exact zC.out) hb); have n9_ := Aside0.mk (zm (by repeat (first | (with_reducible first | exact HB.out | apply zd | apply zb | apply zc | refine zh ?_ zL.out | refine zh ?_ zM.out | refine zh ?_ zO.out) | exact HB.out)) hb); have n10_ := Aside0.mk (hbox); have n11_ := Aside0.mk ((by rw [hg]; exact (zk (by repeat (first | (with_reducible first | exact HB.out | apply zd | apply zb | apply zc | refine zh ?_ zL.out | refine zh ?_ zM.out | refine zh ?_ zO.out) | exact HB.out))) : w.heap.size ≤ zK)); have n12_ := Aside0.mk ((by rw [hg]; exact (zk (by repeat (first | (with_reducible first | exact HB.out | apply zd | apply zb | apply zc | refine zh ?_ zL.out | refine zh ?_ zM.out | refine zh ?_ zO.out) | exact HB.out))) : w.heap.size ≤ zK)); have n13_ := Aside0.mk ((by rw [hg]; exact Nat.ne_of_lt (zw (g := zH) (o := .cells #[.int .i64 a0_0, .int .i64 a0_1] 44 (0, 0)) (by (with_reducible repeat (first | refine zj ?_ _ | refine zl ?_ | refine zi ?_ _)); exact zA.out)) : zH ≠ zK)); have n14_ := Aside0.mk ((by rw [hg]; exact Nat.ne_of_gt (zw (g := zH) (o := .cells #[.int .i64 a0_0, .int .i64 a0_1] 44 (0, 0)) (by (with_reducible repeat (first | refine zj ?_ _ | refine zl ?_ | refine zi ?_ _)); exact zA.out)) : zK ≠ zH)); have n15_ := Aside0.mk ((by rw [hg]; exact Nat.ne_of_lt (zw (g := zJ) (o := .cells #[.slice Ao45 t411.length co45, .slice Ao48 t414.length co48] 47 (0, 0)) (by (with_reducible repeat (first | refine zj ?_ _ | refine zl ?_ | refine zi ?_ _)); exact zB.out)) : zJ ≠ zK)); have n16_ := Aside0.mk ((by rw [hg]; exact Nat.ne_of_gt (zw (g := zJ) (o := .cells #[.slice Ao45 t411.length co45, .slice Ao48 t414.length co48] 47 (0, 0)) (by (with_reducible repeat (first | refine zj ?_ _ | refine zl ?_ | refine zi ?_ _)); exact zB.out)) : zK ≠ zJ)); have n17_ := Aside0.mk ((by rw [hg]; exact Nat.ne_of_lt (zw (g := zF) (o := .cells #[.slice Ao53 t420.length co53, .slice Ao57 t423.length co57] 47 (0, 0)) (by (with_reducible repeat (first | refine zj ?_ _ | refine zl ?_ | refine zi ?_ _)); exact zC.out)) : zF ≠ zK)); have n18_ := Aside0.mk ((by rw [hg]; exact Nat.ne_of_gt (zw (g := zF) (o := .cells #[.slice Ao53 t420.length co53, .slice Ao57 t423.length co57] 47 (0, 0)) (by (with_reducible repeat (first | refine zj ?_ _ | refine zl ?_ | refine zi ?_ _)); exact zC.out)) : zK ≠ zF)); clear zD; clear zE; clear zG; clear zI; clear zP; clear zQ; clear zA; clear zB; clear zC; clear HB; have zD := n0_; have zE := n1_; have zG := n2_; have zI := n3_; have zP := n4_; have zQ := n5_; have zA := n6_; have zB := n7_; have zC := n8_; have HB := n9_; have zN := n10_; have GW439 := n11_; have zfb := n12_; have zW := n13_; have zcb := n14_; have zX := n15_; have zdb := n16_; have zY := n17_; have zeb := n18_; clear n0_ n1_ n2_ n3_ n4_ n5_ n6_ n7_ n8_ n9_ n10_ n11_ n12_ n13_ n14_ n15_ n16_ n17_ n18_; clear hb hbox hg; obtain ⟨Ao68, co68, eo68⟩ := Kd.R_slice zP.out; subst eo68; have zac := zcb.out; have zbc := zW.out; have zcc := zdb.out; have zdc := zX.out; have zec := zeb.out; have zfc := zY.out; have zMb : w67.cell? ⟨zK, 0, none⟩ = some (.slice none 0 0) := (ze zN.out 0).trans rfl; have zNb : w67.cell? ⟨zK, 1, none⟩ = some (.slice none 0 0) := (ze zN.out 1).trans rfl; have zOb := zg zN.out 0; have zPb := zg zN.out 1; obtain ⟨Ao73, co73, eo73⟩ := Kd.S_slice zQ.out; subst eo73; have zQb : w67.cell? ⟨zJ, 0, none⟩ = some (.slice Ao45 t411.length co45) := (ze zB.out 0).trans rfl; have zRb : w67.cell? ⟨zJ, 1, none⟩ = some (.slice Ao48 t414.length co48) := (ze zB.out 1).trans rfl; have zSb := zg zB.out 0; have zTb := zg zB.out 1) | ((with_reducible refine zn (f := 27) rfl ?_); refine zx (some 34) rfl rfl Tryd.func27 (by kernel_rfl) rfl #[.agg #[.slice Ao68 t433.length co68, .slice Ao73 t436.length co73], .agg #[.slice Ao45 t411.length co45, .slice Ao48 t414.length co48]] rfl (by (try simp only [List.map_toArray, List.map_cons, List.map_nil]); first | done | rfl | (simp only [List.length_drop, List.length_take]; rfl)) ?_; (with_reducible refine (laws_eqDisk.calls k _ _ t433 _ _ t436 _ _ t411 _ _ t414 true _ ?side1 ?side2 ?side3 ?side4 ?side5 ?side6 ?side7 ?side8 A38.out).mono ?_); (case side1 => refine (Kd.R_reads' (e := 5) (base := w.heap.size) (ok := fun k_ => ((True ∧ some k_ ≠ (.slice Ao45 t411.length co45 : Value).ownBlock) ∧ some k_ ≠ (.slice Ao53 t420.length co53 : Value).ownBlock)) (n := t433.length) (c := co68) ?_).2.2; exact (by (with_reducible repeat (first | apply Kd.R_alloc | apply Kd.R_drewN | apply Kd.R_drew)); exact (Kd.R_mono (Kd.R_far (p := ⟨zK, 1, none⟩) (Kd.R_far (p := ⟨zK, 0, none⟩) (Kd.R_types zP.out zN.out (by decide)) (fun _ hk => hk.2) (.slice Ao68 t433.length co68)) (fun _ hk => hk.2) (.slice Ao73 t436.length co73)) (fun _ h_ => h_.1)))); (case side2 => exact (Kd.R_reads' zP.out).2.1); (case side3 => refine (Kd.S_reads' (e := 195) (base := w.heap.size) (ok := fun k_ => ((((some k_ ≠ (.slice Ao68 t433.length co68 : Value).ownBlock ∧ some k_ ≠ (.slice Ao45 t411.length co45 : Value).ownBlock) ∧ some k_ ≠ (.slice Ao48 t414.length co48 : Value).ownBlock) ∧ some k_ ≠ (.slice Ao53 t420.length co53 : Value).ownBlock) ∧ some k_ ≠ (.slice Ao57 t423.length co57 : Value).ownBlock)) (n := t436.length) (c := co73) ?_).2.2; exact (by (with_reducible repeat (first | apply Kd.S_alloc | apply Kd.S_drewN | apply Kd.S_drew)); exact (Kd.S_mono (Kd.S_far (p := ⟨zK, 1, none⟩) (Kd.S_far (p := ⟨zK, 0, none⟩) (Kd.S_types zQ.out zN.out (by decide)) (fun _ hk => hk.2) (.slice Ao68 t433.length co68)) (fun _ hk => hk.2) (.slice Ao73 t436.length co73)) (fun _ h_ => h_.1)))); (case side4 => exact (Kd.S_reads' zQ.out).2.1); (case side5 => refine (Kd.R_reads' (e := 5) (base := w.heap.size) (ok := fun k_ => (some k_ ≠ (.slice Ao53 t420.length co53 : Value).ownBlock ∧ some k_ ≠ (.slice Ao68 t433.length co68 : Value).ownBlock)) (n := t411.length) (c := co45) ?_).2.2; exact (by (with_reducible repeat (first | apply Kd.R_alloc | apply Kd.R_drewN | apply Kd.R_drew)); exact (Kd.R_mono (Kd.R_far (p := ⟨zK, 1, none⟩) (Kd.R_far (p := ⟨zK, 0, none⟩) (Kd.R_types zD.out zN.out (by decide)) (fun _ hk => hk.2) (.slice Ao68 t433.length co68)) (fun _ hk => hk.2) (.slice Ao73 t436.length co73)) (fun _ h_ => h_.1)))); (case side6 => exact (Kd.R_reads' zD.out).2.1); (case side7 => refine (Kd.S_reads' (e := 195) (base := w.heap.size) (ok := fun k_ => (((some k_ ≠ (.slice Ao45 t411.length co45 : Value).ownBlock ∧ (some k_ ≠ (.slice Ao53 t420.length co53 : Value).ownBlock ∧ some k_ ≠ (.slice Ao57 t423.length co57 : Value).ownBlock)) ∧ some k_ ≠ (.slice Ao68 t433.length co68 : Value).ownBlock) ∧ some k_ ≠ (.slice Ao73 t436.length co73 : Value).ownBlock)) (n := t414.length) (c := co48) ?_).2.2; exact (by (with_reducible repeat (first | apply Kd.S_alloc | apply Kd.S_drewN | apply Kd.S_drew)); exact (Kd.S_mono (Kd.S_far (p := ⟨zK, 1, none⟩) (Kd.S_far (p := ⟨zK, 0, none⟩) (Kd.S_types zE.out zN.out (by decide)) (fun _ hk => hk.2) (.slice Ao68 t433.length co68)) (fun _ hk => hk.2) (.slice Ao73 t436.length co73)) (fun _ h_ => h_.1)))); (case side8 => exact (Kd.S_reads' zE.out).2.1); rintro e w75 ⟨rfl, hb⟩; refine ⟨_, rfl, ?_⟩; have n0_ := Aside0.mk (Kd.R_below (by (with_reducible repeat (first | apply Kd.R_alloc | apply Kd.R_drewN | apply Kd.R_drew)); exact (Kd.R_mono (Kd.R_far (p := ⟨zK, 1, none⟩) (Kd.R_far (p := ⟨zK, 0, none⟩) (Kd.R_types zD.out zN.out (by decide)) (fun _ hk => hk.2) (.slice Ao68 t433.length co68)) (fun _ hk => hk.2) (.slice Ao73 t436.length co73)) (fun _ h_ => h_.1))) hb); have n1_ := Aside0.mk (Kd.S_below (by (with_reducible repeat (first | apply Kd.S_alloc | apply Kd.S_drewN | apply Kd.S_drew)); exact (Kd.S_mono (Kd.S_far (p := ⟨zK, 1, none⟩) (Kd.S_far (p := ⟨zK, 0, none⟩) (Kd.S_types zE.out zN.out (by decide)) (fun _ hk => hk.2) (.slice Ao68 t433.length co68)) (fun _ hk => hk.2) (.slice Ao73 t436.length co73)) (fun _ h_ => h_.1))) hb); have n2_ := Aside0.mk (Kd.R_below (by (with_reducible repeat (first | apply Kd.R_alloc | apply Kd.R_drewN | apply Kd.R_drew)); exact (Kd.R_mono (Kd.R_far (p := ⟨zK, 1, none⟩) (Kd.R_far (p := ⟨zK, 0, none⟩) (Kd.R_types zG.out zN.out (by decide)) (fun _ hk => hk.2) (.slice Ao68 t433.length co68)) (fun _ hk => hk.2) (.slice Ao73 t436.length co73)) (fun _ h_ => h_.1))) hb); have n3_ := Aside0.mk (Kd.S_below (by (with_reducible repeat (first | apply Kd.S_alloc | apply Kd.S_drewN | apply Kd.S_drew)); exact (Kd.S_mono (Kd.S_far (p := ⟨zK, 1, none⟩) (Kd.S_far (p := ⟨zK, 0, none⟩) (Kd.S_types zI.out zN.out (by decide)) (fun _ hk => hk.2) (.slice Ao68 t433.length co68)) (fun _ hk => hk.2) (.slice Ao73 t436.length co73)) (fun _ h_ => h_.1))) hb); have n4_ := Aside0.mk (Kd.R_below (by (with_reducible repeat (first | apply Kd.R_alloc | apply Kd.R_drewN | apply Kd.R_drew)); exact (Kd.R_mono (Kd.R_far (p := ⟨zK, 1, none⟩) (Kd.R_far (p := ⟨zK, 0, none⟩) (Kd.R_types zP.out zN.out (by decide)) (fun _ hk => hk.2) (.slice Ao68 t433.length co68)) (fun _ hk => hk.2) (.slice Ao73 t436.length co73)) (fun _ h_ => h_.1))) hb); have n5_ := Aside0.mk (Kd.S_below (by (with_reducible repeat (first | apply Kd.S_alloc | apply Kd.S_drewN | apply Kd.S_drew)); exact (Kd.S_mono (Kd.S_far (p := ⟨zK, 1, none⟩) (Kd.S_far (p := ⟨zK, 0, none⟩) (Kd.S_types zQ.out zN.out (by decide)) (fun _ hk => hk.2) (.slice Ao68 t433.length co68)) (fun _ hk => hk.2) (.slice Ao73 t436.length co73)) (fun _ h_ => h_.1))) hb); have n6_ := Aside0.mk (zo (g := zH) (o := .cells #[.int .i64 a0_0, .int .i64 a0_1] 44 (0, 0)) (by (with_reducible repeat (first | refine zj ?_ _ | refine zl ?_ | refine zi ?_ _)); refine blk_far ?_ zW.out _; (with_reducible repeat (first | refine zj ?_ _ | refine zl ?_ | refine zi ?_ _)); refine blk_far ?_ zW.out _; (with_reducible repeat (first | refine zj ?_ _ | refine zl ?_ | refine zi ?_ _)); exact zA.out) hb); have n7_ := Aside0.mk (zo (g := zJ) (o := .cells #[.slice Ao45 t411.length co45, .slice Ao48 t414.length co48] 47 (0, 0)) (by (with_reducible repeat (first | refine zj ?_ _ | refine zl ?_ | refine zi ?_ _)); refine blk_far ?_ zX.out _; (with_reducible repeat (first | refine zj ?_ _ | refine zl ?_ | refine zi ?_ _)); refine blk_far ?_ zX.out _; (with_reducible repeat (first | refine zj ?_ _ | refine zl ?_ | refine zi ?_ _)); exact zB.out) hb); have n8_ := Aside0.mk (zo (g := zF) (o := .cells #[.slice Ao53 t420.length co53, .slice Ao57 t423.length co57] 47 (0, 0)) (by (with_reducible repeat (first | refine zj ?_ _ | refine zl ?_ | refine zi ?_ _)); refine blk_far ?_ zY.out _; (with_reducible repeat (first | refine zj ?_ _ | refine zl ?_ | refine zi ?_ _)); refine blk_far ?_ zY.out _; (with_reducible repeat (first | refine zj ?_ _ | refine zl ?_ | refine zi ?_ _)); exact zC.out) hb); have n9_ := Aside0.mk (zo (g := zK) (o := .cells #[.slice Ao68 t433.length co68, .slice Ao73 t436.length co73] 47 (0, 0)) (by (with_reducible repeat (first | refine zj ?_ _ | refine zl ?_ | refine zi ?_ _)); refine zy (cs := #[.slice Ao68 t433.length co68, .slice none 0 0]) ?_ 1 _ rfl; (with_reducible repeat (first | refine zj ?_ _ | refine zl ?_ | refine zi ?_ _)); refine zy (cs := #[.slice none 0 0, .slice none 0 0]) ?_ 0 _ rfl; (with_reducible repeat (first | refine zj ?_ _ | refine zl ?_ | refine zi ?_ _)); exact zN.out) hb); have n10_ := Aside0.mk (zm (by repeat (first | (with_reducible first | exact HB.out | apply zd | apply zb | apply zc | refine zh ?_ zL.out | refine zh ?_ zM.out | refine zh ?_ zO.out | refine zh ?_ zfb.out) | exact HB.out)) hb); clear zD; clear zE; clear zG; clear zI; clear zP; clear zQ; clear zA; clear zB; clear zC; clear zN; clear HB; have zD := n0_; have zE := n1_; have zG := n2_; have zI := n3_; have zP := n4_; have zQ := n5_; have zA := n6_; have zB := n7_; have zC := n8_; have zN := n9_; have HB := n10_; clear n0_ n1_ n2_ n3_ n4_ n5_ n6_ n7_ n8_ n9_ n10_; (try clear hb); (try clear hb2); (try clear hk); (try clear hi)))
     go_ret
     exact ⟨by first | rfl | (simp [errW_none, errW_some] <;> rfl) | (simp [*, errW_none, errW_some] <;> rfl), by repeat (first | (with_reducible first | exact HB.out | apply zd | apply zb | apply zc | refine zh ?_ zL.out | refine zh ?_ zM.out | refine zh ?_ zO.out | refine zh ?_ zfb.out) | exact HB.out)⟩
    ·replace c39 := Bool.eq_false_iff.mpr c39
     subst c39
     have H1 : none = some r := by rw [if_neg (show ¬ (false = true) by decide)] at H; exact H
     clear H
     have H := H1
     clear H1
     exact absurd H (by simp)
   ·rw [if_neg c35] at H
    have c35b0 : (t430 == t428) = false := beq_eq_false_iff_ne.mpr c35
    have c35b1 : (t430 != t428) = true := bne_iff_ne.mpr c35
    exact absurd H (by simp)
 ·replace c7 := Bool.eq_false_iff.mpr c7
  subst c7
  have H1 : none = some r := by rw [if_neg (show ¬ (false = true) by decide)] at H; exact H
  clear H
  have H := H1
  clear H1
  exact absurd H (by simp)

/-- THE ONE PURE STATEMENT of laws_FnExactFormatDisk. -/
def laws_FnExactFormatDisk.Pure : Prop := ∀ (a0_0 : Int) (a0_1 : Int), (Lit.int .i64 a0_0).wf = true → (Lit.int .i64 a0_1).wf = true → ∃ k, laws_FnExactFormatDisk.f k a0_0 a0_1 = some true

end Go.Proofs.YtjoafknckmoojaaDoor.GFnExactFormatDisk
