/- Written by give.py, a program of this session, that runs the kit's print and lays contracts proved by hand beside it. -/
import Derived.Test.YtjoafknckmoojaaDoorGFnExactFormatDiskx0
import Derived.Test.YtjoafknckmoojaaDoorGFnExactFormatDiskx7
namespace Go.Proofs.YtjoafknckmoojaaDoor.GFnExactFormatDisk
open Go.RowKit Go.Proofs.YtjoafknckmoojaaDoorW.PrintWords Go.Proofs.YtjoafknckmoojaaDoorW.PrintLast Go.Proofs.YtjoafknckmoojaaDoorW.PrintMore
attribute [local go_sem] max2_int min2_int max_two min_two max_three min_three max_four min_four Go.Proofs.YtjoafknckmoojaaDoorH.str_leq Go.Proofs.YtjoafknckmoojaaDoorH.str_geq Go.Proofs.YtjoafknckmoojaaDoorH.str_gtr   -- for this text's walks alone
set_option linter.unusedVariables false
set_option linter.unusedSimpArgs false

def impl_ValidTree.f (k : Nat) (l0_0 : List (S92)) : Option (Bool) := if (l0_0.length : Int) ≤ 1000 then ((impl_nodesOk.f k l0_0).bind fun t315 => (some t315)) else (some false)
theorem impl_ValidTree.mono : ∀ a0 k, LeO (impl_ValidTree.f k a0) (impl_ValidTree.f (k + 1) a0) := by
 intro a0 k
 unfold impl_ValidTree.f
 repeat' first
   | (with_reducible exact impl_nodesOk.mono _ _)
   | (with_reducible exact LeO.refl _)
   | (with_reducible exact LeO.none _)
   | (with_reducible refine LeO.ite ?_ ?_)
   | (with_reducible refine LeO.bind ?_ (fun _ => ?_))
   | exact impl_nodesOk.mono _ _
   | exact LeO.none _
   | refine LeO.ite ?_ ?_
   | refine LeO.bind ?_ (fun _ => ?_)
set_option maxHeartbeats 8000000 in
set_option maxRecDepth 100000 in
theorem impl_ValidTree.calls (k : Nat) (A0_0 : Option Addr) (c0_0 : Nat) (l0_0 : List (S92)) (r : Bool) (w : World) (hr0_0 : Kd.C k92 w A0_0 l0_0.length l0_0) (hc0_0 : l0_0.length ≤ c0_0) (h : impl_ValidTree.f k l0_0 = some r) (hGMAX_ : Go.Proofs.YtjoafknckmoojaaDoorH.GFMAX w) :
  Calls Tryd.prog 42 #[.agg #[.slice A0_0 l0_0.length c0_0]] w fun e w' => e = .returned (.bool r) ∧ Below w.heap.size w w' := by
 have HGMAX_ := Aside0.mk hGMAX_
 clear hGMAX_
 have hu25 := Tryd.underlying25
 have HR0_0 := Aside0.mk hr0_0
 have HC0_0 := Aside0.mk hc0_0
 clear hr0_0 hc0_0
 have HB := Aside0.mk (Below.refl w.heap.size w)
 have H : (if (l0_0.length : Int) ≤ 1000 then ((impl_nodesOk.f k l0_0).bind fun t315 => (some t315)) else (some false)) = some r := h
 clear h
 by_cases c2 : (l0_0.length : Int) ≤ 1000
 ·rw [if_pos c2] at H
  have c2b0 : decide ((l0_0.length : Int) ≤ 1000) = true := decide_eq_true c2
  have c2b1 : decide (l0_0.length ≤ 1000) = true := decide_eq_true (by omega)
  clear c2
  replace H := Option.bind_eq_some_iff.mp H
  obtain ⟨t315, A30, H⟩ := H
  replace H : (some t315) = some r := H
  have A3 := Aside0.mk A30
  clear A30
  obtain rfl := Option.some.inj H
  go_enter Tryd.func42, Tryd.ntmps42
  go_wp2_with (first | ((with_reducible refine zr (N := 1) rfl ?_); refine zu ?hg (N := 1) ?hd (cs := #[.slice A0_0 l0_0.length c0_0]) (t := 25) ?hr ?_; (case hd => rfl); (case hg => rfl); (case hr => first | (go_simp; done) | (go_simp; rfl)); intro zA hg w4 hbox hb; have n0_ := Aside0.mk (zm (by repeat (first | (with_reducible first | exact HB.out | apply zd | apply zb | apply zc) | exact HB.out)) hb); have n1_ := Aside0.mk (hbox); have n2_ := Aside0.mk ((by rw [hg]; exact (zk (by repeat (first | (with_reducible first | exact HB.out | apply zd | apply zb | apply zc) | exact HB.out))) : w.heap.size ≤ zA)); have n3_ := Aside0.mk ((by rw [hg]; exact (zk (by repeat (first | (with_reducible first | exact HB.out | apply zd | apply zb | apply zc) | exact HB.out))) : w.heap.size ≤ zA)); clear HB; have HB := n0_; have zB := n1_; have GW314 := n2_; have zC := n3_; clear n0_ n1_ n2_ n3_; clear hb hbox hg; have zD : w4.cell? ⟨zA, 0, none⟩ = some (.slice A0_0 l0_0.length c0_0) := (ze zB.out 0).trans rfl; have zE := zg zB.out 0) | (go_at_call 106; (with_reducible refine (impl_nodesOk.calls k _ _ l0_0 t315 _ ?side1 ?side2 A3.out ?globMAX_).mono ?_); (case globMAX_ => exact Go.Proofs.YtjoafknckmoojaaDoorH.GFMAX.below HGMAX_.out (by repeat (first | (with_reducible first | exact HB.out | exact Below.refl _ _ | apply zd | apply zb | apply zc | refine zh ?_ (Aside0.out (by assumption))) | exact HB.out))); (case side1 => repeat (first | exact (Kd.C_below HR0_0.out HB.out) | (with_reducible refine Kd.C_alloc ?_ _) | (with_reducible refine Kd.C_drewN ?_ _) | (with_reducible refine Kd.C_drew ?_))); (case side2 => exact HC0_0.out); rintro e w6 ⟨rfl, hb⟩; have n0_ := Aside0.mk (zo (g := zA) (o := .cells #[.slice A0_0 l0_0.length c0_0] 25 (0, 0)) (by (with_reducible repeat (first | refine zj ?_ _ | refine zl ?_ | refine zi ?_ _)); exact zB.out) hb); have n1_ := Aside0.mk (zm (by repeat (first | (with_reducible first | exact HB.out | apply zd | apply zb | apply zc | refine zh ?_ zC.out) | exact HB.out)) hb); clear zB; clear HB; have zB := n0_; have HB := n1_; clear n0_ n1_; (try clear hb); (try clear hb2); (try clear hk); (try clear hi)))
  go_ret
  exact ⟨by first | rfl | (simp [errW_none, errW_some] <;> rfl) | (simp [*, errW_none, errW_some] <;> rfl), by repeat (first | (with_reducible first | exact HB.out | apply zd | apply zb | apply zc | refine zh ?_ zC.out) | exact HB.out)⟩
 ·rw [if_neg c2] at H
  have c2b0 : decide ((l0_0.length : Int) ≤ 1000) = false := decide_eq_false c2
  have c2b1 : decide (l0_0.length ≤ 1000) = false := decide_eq_false (by omega)
  clear c2
  obtain rfl := Option.some.inj H
  go_enter Tryd.func42, Tryd.ntmps42
  go_wp2_with (first | ((with_reducible refine zr (N := 1) rfl ?_); refine zu ?hg (N := 1) ?hd (cs := #[.slice A0_0 l0_0.length c0_0]) (t := 25) ?hr ?_; (case hd => rfl); (case hg => rfl); (case hr => first | (go_simp; done) | (go_simp; rfl)); intro zA hg w7 hbox hb; have n0_ := Aside0.mk (zm (by repeat (first | (with_reducible first | exact HB.out | apply zd | apply zb | apply zc) | exact HB.out)) hb); have n1_ := Aside0.mk (hbox); have n2_ := Aside0.mk ((by rw [hg]; exact (zk (by repeat (first | (with_reducible first | exact HB.out | apply zd | apply zb | apply zc) | exact HB.out))) : w.heap.size ≤ zA)); have n3_ := Aside0.mk ((by rw [hg]; exact (zk (by repeat (first | (with_reducible first | exact HB.out | apply zd | apply zb | apply zc) | exact HB.out))) : w.heap.size ≤ zA)); clear HB; have HB := n0_; have zB := n1_; have GW314 := n2_; have zC := n3_; clear n0_ n1_ n2_ n3_; clear hb hbox hg; have zF : w7.cell? ⟨zA, 0, none⟩ = some (.slice A0_0 l0_0.length c0_0) := (ze zB.out 0).trans rfl; have zG := zg zB.out 0))
  go_ret
  exact ⟨by first | rfl | (simp [errW_none, errW_some] <;> rfl) | (simp [*, errW_none, errW_some] <;> rfl), by repeat (first | (with_reducible first | exact HB.out | apply zd | apply zb | apply zc | refine zh ?_ zC.out) | exact HB.out)⟩

def impl_big.l0 : Nat → List Int → Int → Int → Option (List Int)
 | 0, _, _, _ => none
 | k + 1, x0, x2, x7 => if x7 ≥ 0 then (if 0 ≤ (wrap64 (8 * x7)) then (if x0.length < 140737488355328 then (impl_big.l0 k (x0 ++ [(shr .u64 (IntKind.u64.wrap (x2)) (wrap64 (8 * x7))) % 256]) x2 (wrap64 (x7 - 1))) else (none)) else (none)) else (some x0)
def impl_big.f (k : Nat) (l0 : List Int) (a1 : Int) (a2 : Int) : Option (List Int) := impl_big.l0 k l0 a2 (wrap64 (a1 - 1))
theorem impl_big.mono_l : ∀ k, (∀ y0 y1 y2, LeO (impl_big.l0 k y0 y1 y2) (impl_big.l0 (k + 1) y0 y1 y2))
 | 0 => fun _ _ _ r h => by simp [impl_big.l0] at h
 | k + 1 => by
  have ih0 := impl_big.mono_l k
  ·intro y0 y1 y2
   unfold impl_big.l0
   repeat' first
   | (with_reducible exact ih0 _ _ _)
   | (with_reducible exact LeO.refl _)
   | (with_reducible exact LeO.none _)
   | (with_reducible refine LeO.ite ?_ ?_)
   | (with_reducible refine LeO.bind ?_ (fun _ => ?_))
   | exact ih0 _ _ _
   | exact LeO.none _
   | refine LeO.ite ?_ ?_
   | refine LeO.bind ?_ (fun _ => ?_)
theorem impl_big.mono : ∀ a0 a1 a2 k, LeO (impl_big.f k a0 a1 a2) (impl_big.f (k + 1) a0 a1 a2) := by
 intro a0 a1 a2 k
 have ih0 := impl_big.mono_l k
 unfold impl_big.f
 repeat' first
   | (with_reducible exact ih0 _ _ _)
   | (with_reducible exact LeO.refl _)
   | (with_reducible exact LeO.none _)
   | (with_reducible refine LeO.ite ?_ ?_)
   | (with_reducible refine LeO.bind ?_ (fun _ => ?_))
   | exact ih0 _ _ _
   | exact LeO.none _
   | refine LeO.ite ?_ ?_
   | refine LeO.bind ?_ (fun _ => ?_)
set_option maxHeartbeats 8000000 in
set_option maxRecDepth 100000 in
theorem impl_big.calls (k : Nat) (P0_ : Nat → Prop) (u9000_ : Value) (l0 : List Int) (a1 : Int) (a2 : Int) (r : List Int) (w0 w : World) (hB : Below w0.heap.size w0 w) (zC : Kd.R (Kd.int .u8) 5 w w0.heap.size P0_ u9000_ l0) (h : impl_big.f k l0 a1 a2 = some r) :
  Calls Tryd.prog 146 #[u9000_, .int .i64 a1, .int .i64 a2] w fun e w' => ∃ v0_ : Value, e = .returned (v0_) ∧ Kd.R (Kd.int .u8) 5 w' w0.heap.size (fun k_ => (P0_ k_ ∨ w.heap.size ≤ k_)) v0_ r ∧ Below w0.heap.size w0 w' ∧ Kept w w' (fun k_ => P0_ k_) := by
 have zD := Aside0.mk (show Kd.R (Kd.int .u8) 5 w w0.heap.size (fun k_ => (P0_ k_ ∨ w.heap.size ≤ k_)) u9000_ l0 from Kd.R_mono zC (fun k_ hk => (.inl hk)))
 have HK := Aside0.mk (Kept.refl w (fun k_ => P0_ k_))
 have HW0 := Aside0.mk hB.size
 have HB := Aside0.mk hB
 clear hB
 have H : (impl_big.l0 k l0 a2 (wrap64 (a1 - 1))) = some r := h
 clear h
 have H' := Aside0.mk H
 clear H
 go_enter Tryd.func146, Tryd.ntmps146
 go_wp2
 go_loopg [0, 7] k (fun kq v0 v7 w' => ∃ (x0_1 : List Int) (x7_1 : Int), v7 = .int .i64 x7_1 ∧ Aside0 (impl_big.l0 kq x0_1 a2 x7_1 = some r) ∧ Aside0 (kq ≤ k) ∧ Aside0 (Kd.R (Kd.int .u8) 5 w' w0.heap.size (fun k_ => (P0_ k_ ∨ w.heap.size ≤ k_)) v0 x0_1) ∧ Aside0 (Kept w w' (fun k_ => P0_ k_)) ∧ Aside0 (Below w0.heap.size w0 w'))
 case atStart => exact ⟨(l0), (wrap64 (a1 - 1)), (by first | rfl | (simp; done) | (simp [*]; done)), H', ⟨Nat.le_refl _⟩, ⟨by (with_reducible repeat (first | apply Kd.R_alloc | apply Kd.R_drewN | apply Kd.R_drew)); exact zD.out⟩, ⟨by repeat (first | (with_reducible first | exact HK.out | apply Kept.alloc | apply Kept.drewN | apply Kept.drew) | exact HK.out)⟩, ⟨by repeat (first | (with_reducible first | exact HB.out | apply zd | apply zb | apply zc) | exact HB.out)⟩⟩
 case round =>
  clear H'
  try clear c1
  try clear p2
  obtain ⟨x0_1, x7_1, rfl, HA, HK1, zA, HK, HB⟩ := hrel
  cases gk with
  | zero => exact absurd HA.out (by simp [impl_big.l0])
  | succ k1 =>
   have H := HA.out
   clear HA
   simp only [impl_big.l0] at H
   by_cases c4 : x7_1 ≥ 0
   ·rw [if_pos c4] at H
    have c4b0 : decide (0 ≤ x7_1) = true := decide_eq_true c4
    clear c4
    obtain ⟨ji5, hji5⟩ : ∃ j_ : Int, (wrap64 (8 * x7_1)) = j_ := ⟨_, rfl⟩
    replace H : (if 0 ≤ (ji5) then (if x0_1.length < 140737488355328 then (impl_big.l0 k1 (x0_1 ++ [(shr .u64 (IntKind.u64.wrap (a2)) (ji5)) % 256]) a2 (wrap64 (x7_1 - 1))) else (none)) else (none)) = some r := by first | (rw [hji5] at H; exact H) | (simp only [hji5] at H ⊢; exact H)
    have hji5w : (IntKind.i64.wrap (8 * x7_1)) = ji5 := (zp _).trans hji5
    by_cases c6 : 0 ≤ (ji5)
    ·rw [if_pos c6] at H
     have c6b0 := eq_true c6
     have c6b1 : decide (0 ≤ (ji5)) = true := decide_eq_true c6
     clear c6
     obtain ⟨ji7, hji7⟩ : ∃ j_ : Int, (shr .u64 (IntKind.u64.wrap (a2)) (ji5)) = j_ := ⟨_, rfl⟩
     replace H : (if x0_1.length < 140737488355328 then (impl_big.l0 k1 (x0_1 ++ [(ji7) % 256]) a2 (wrap64 (x7_1 - 1))) else (none)) = some r := by first | (rw [hji7] at H; exact H) | (simp only [hji7] at H ⊢; exact H)
     have hji7_ : ((IntKind.u64.wrap (a2)) / 2 ^ min (ji5).toNat 64) = ji7 := hji7
     have hji7z : (ji5) ≤ 64 → ((IntKind.u64.wrap (a2)) / 2 ^ (ji5).toNat) = ji7 := shr_small hji7
     by_cases c8 : x0_1.length < 140737488355328
     ·rw [if_pos c8] at H
      have LMc8 := Aside0.mk c8
      clear c8
      obtain ⟨y316, hy316⟩ : ∃ y_ : List Int, y_ = (x0_1 ++ [(ji7) % 256]) := ⟨_, rfl⟩
      replace H : (impl_big.l0 k1 y316 a2 (wrap64 (x7_1 - 1))) = some r := by first | (rw [hy316]; with_reducible exact H) | (have H2_ := (Option.bind_some _ _).symm.trans H; rw [hy316]; with_reducible exact H2_) | (have H2_ := (Option.bind_some _ _).symm.trans H; with_reducible exact H2_) | with_reducible exact H | (rw [hy316]; exact H) | exact H
      have Ny316 := Aside0.mk hy316
      clear hy316
      have H' := Aside0.mk H
      clear H
      go_wp2_with (first | ((with_reducible refine gate_builtin (b := .append) (xs := #[.tmp 14, .tmp 21]) rfl ?_); at_builtin; refine Kd.R_append (Kd.int .u8) (w0 := w0) w0.heap.size rfl (.tmp 14) (.tmp 21) 22 5 (.int .u8 0) 1 rfl Tryd.underlying22 info5 rfl (by decide) (by omega) u0 x0_1 ((ji7) % 256) [.int .u8 ((ji7) % 256)] (fun k_ => (P0_ k_ ∨ w.heap.size ≤ k_)) (fun _ => False) rfl rfl ?aP (fun _ hk => hk.elim) ?aF ?aO ?aB ?aS ?aL ?_; (case aP => exact rfl); (case aB => exact (by repeat (first | (with_reducible first | exact HB.out | apply zd | apply zb | apply zc) | exact HB.out))); (case aF => exact (fun k_ hk => (.inr (Nat.le_trans (by first | exact HK.out.1 | exact (show Kept w _ (fun k_ => P0_ k_) from by repeat (first | (with_reducible first | exact HK.out | apply Kept.alloc | apply Kept.drewN | apply Kept.drew) | exact HK.out)).1) hk)))); (case aO => exact (by (with_reducible repeat (first | apply Kd.R_alloc | apply Kd.R_drewN | apply Kd.R_drew)); exact zA.out)); (case aS => exact (zk (by repeat (first | (with_reducible first | exact HB.out | apply zd | apply zb | apply zc) | exact HB.out)))); (case aL => have := LMc8.out; omega); intro v317 w9 ho hb hg hat; rw [← Ny316.out] at ho; have n0_ := Aside0.mk (hb); have n1_ := Aside0.mk (Kept.of_grown (S := (fun k_ => P0_ k_)) hg (by repeat (first | (with_reducible first | exact HK.out | apply Kept.alloc | apply Kept.drewN | apply Kept.drew) | exact HK.out)) (fun k_ e_ => (zA.out.1 k_ e_))); have n2_ := Aside0.mk (ho); clear HB; clear HK; clear zA; have HB := n0_; have HK := n1_; have zB := n2_; clear n0_ n1_ n2_; clear ho hb hg hat))
      go_roundg k1
      case measure => have := HK1.out; omega
      case rel => exact ⟨(y316), (wrap64 (x7_1 - 1)), (by first | rfl | (simp; done) | (simp [*]; done)), H', ⟨by have := HK1.out; omega⟩, ⟨by (with_reducible repeat (first | apply Kd.R_alloc | apply Kd.R_drewN | apply Kd.R_drew)); exact zB.out⟩, ⟨by repeat (first | (with_reducible first | exact HK.out | apply Kept.alloc | apply Kept.drewN | apply Kept.drew) | exact HK.out)⟩, ⟨by repeat (first | (with_reducible first | exact HB.out | apply zd | apply zb | apply zc) | exact HB.out)⟩⟩
     ·rw [if_neg c8] at H
      exact absurd H (by simp)
    ·rw [if_neg c6] at H
     exact absurd H (by simp)
   ·rw [if_neg c4] at H
    have c4b0 : decide (0 ≤ x7_1) = false := decide_eq_false c4
    clear c4
    obtain rfl := Option.some.inj H
    go_wp2
    go_ret
    exact ⟨_, by first | rfl | (simp [errW_none, errW_some] <;> rfl) | (simp [*, errW_none, errW_some] <;> rfl), by (with_reducible repeat (first | apply Kd.R_alloc | apply Kd.R_drewN | apply Kd.R_drew)); exact zA.out, by repeat (first | (with_reducible first | exact HB.out | apply zd | apply zb | apply zc) | exact HB.out), by repeat (first | (with_reducible first | exact HK.out | apply Kept.alloc | apply Kept.drewN | apply Kept.drew) | exact HK.out)⟩

def impl_nodeImage_put.l0 (n0_ n1_ n2_ n3_ n4_ : Int) : Nat → List Int → Int → Option (List Int)
 | 0, _, _ => none
 | k + 1, x1, x47 => if x47 < 5 then (if 0 ≤ x47 then ((impl_big.f k x1 4 (YtjoafknckmoojaaDoorH.five n0_ n1_ n2_ n3_ n4_ x47)).bind fun t332 => (impl_nodeImage_put.l0 n0_ n1_ n2_ n3_ n4_ k t332 (wrap64 (x47 + 1)))) else none) else (some x1)
def impl_nodeImage_put.f (k : Nat) (a0_0 : ByteArray) (a0_1 : ByteArray) (a0_2 : Int) (a0_3 : Int) (a0_4 : Int) (a0_5 : Int) (a0_6 : Int) (l1 : List Int) : Option (List Int) := if l1.length < 140737488355328 then ((some (l1 ++ [((a0_0.size : Int)) % 256] : List Int)).bind fun y320 => (if y320.length + a0_0.size < 140737488355328 then ((some (y320 ++ bytesOf a0_0 : List Int)).bind fun y323 => (if y323.length < 140737488355328 then ((some (y323 ++ [((a0_1.size : Int)) % 256] : List Int)).bind fun y326 => (if y326.length + a0_1.size < 140737488355328 then (impl_nodeImage_put.l0 a0_2 a0_3 a0_4 a0_5 a0_6 k (y326 ++ bytesOf a0_1) 0) else (none))) else (none))) else (none))) else (none)
theorem impl_nodeImage_put.mono_l (n0_ n1_ n2_ n3_ n4_ : Int) : ∀ k, (∀ y0 y1, LeO (impl_nodeImage_put.l0 n0_ n1_ n2_ n3_ n4_ k y0 y1) (impl_nodeImage_put.l0 n0_ n1_ n2_ n3_ n4_ (k + 1) y0 y1))
 | 0 => fun _ _ r h => by simp [impl_nodeImage_put.l0] at h
 | k + 1 => by
  have ih0 := impl_nodeImage_put.mono_l n0_ n1_ n2_ n3_ n4_ k
  ·intro y0 y1
   unfold impl_nodeImage_put.l0
   repeat' first
   | (with_reducible exact ih0 _ _)
   | (with_reducible exact impl_big.mono _ _ _ _)
   | (with_reducible exact LeO.refl _)
   | (with_reducible exact LeO.none _)
   | (with_reducible refine LeO.ite ?_ ?_)
   | (with_reducible refine LeO.bind ?_ (fun _ => ?_))
   | exact ih0 _ _
   | exact impl_big.mono _ _ _ _
   | exact LeO.none _
   | refine LeO.ite ?_ ?_
   | refine LeO.bind ?_ (fun _ => ?_)
theorem impl_nodeImage_put.mono : ∀ a0 a1 a2 a3 a4 a5 a6 a7 k, LeO (impl_nodeImage_put.f k a0 a1 a2 a3 a4 a5 a6 a7) (impl_nodeImage_put.f (k + 1) a0 a1 a2 a3 a4 a5 a6 a7) := by
 intro a0 a1 a2 a3 a4 a5 a6 a7 k
 have ih0 := impl_nodeImage_put.mono_l a2 a3 a4 a5 a6 k
 unfold impl_nodeImage_put.f
 repeat' first
   | (with_reducible exact ih0 _ _)
   | (with_reducible exact impl_big.mono _ _ _ _)
   | (with_reducible exact LeO.refl _)
   | (with_reducible exact LeO.none _)
   | (with_reducible refine LeO.ite ?_ ?_)
   | (with_reducible refine LeO.bind ?_ (fun _ => ?_))
   | exact ih0 _ _
   | exact impl_big.mono _ _ _ _
   | exact LeO.none _
   | refine LeO.ite ?_ ?_
   | refine LeO.bind ?_ (fun _ => ?_)
def impl_nodeImage_put.T1 : Bool × List (List Nat × List Nat) := (true, [([], []), ([], []), ([1], [1]), ([2], [2]), ([3], [3]), ([4], [4]), ([5], [5]), ([0, 6], [0, 6]), ([], []), ([8], [8]), ([9], [9]), ([7, 10, 7], [7, 10]), ([11, 11, 0, 1, 2, 3, 4, 5, 6, 7, 8, 9, 10, 11], [0, 11])])
def impl_nodeImage_put.B1 : List Nat := [0, 0, 2, 6, 14, 30, 62, 127, 0, 256, 768, 2047, 4095]
theorem impl_nodeImage_put.tab1 : rtab .any (opsOf Tryd.f104 1) = impl_nodeImage_put.T1 := by kernel_rfl
theorem impl_nodeImage_put.bits1 : waitsOk impl_nodeImage_put.T1.2 impl_nodeImage_put.B1 = true := by kernel_rfl
def impl_nodeImage_put.T2 : Bool × List (List Nat × List Nat) := (true, [([], []), ([], []), ([1], [1]), ([2], [2]), ([3], [3]), ([4], [4]), ([5], [5]), ([0, 6], [0, 6]), ([], []), ([8], [8]), ([9], [9]), ([7, 10, 7], [7, 10]), ([11, 11, 0, 1, 2, 3, 4, 5, 6, 7, 8, 9, 10, 11], [0, 11])])
def impl_nodeImage_put.B2 : List Nat := [0, 0, 2, 6, 14, 30, 62, 127, 0, 256, 768, 2047, 4095]
theorem impl_nodeImage_put.tab2 : rtab .any (opsOf Tryd.f104 2) = impl_nodeImage_put.T2 := by kernel_rfl
theorem impl_nodeImage_put.bits2 : waitsOk impl_nodeImage_put.T2.2 impl_nodeImage_put.B2 = true := by kernel_rfl
set_option maxHeartbeats 8000000 in
set_option maxRecDepth 100000 in
theorem impl_nodeImage_put.calls (k : Nat) (a0_0 : ByteArray) (a0_1 : ByteArray) (a0_2 : Int) (a0_3 : Int) (a0_4 : Int) (a0_5 : Int) (a0_6 : Int) (P1_ : Nat → Prop) (u9000_ : Value) (l1 : List Int) (r : List Int) (w0 w : World) (hB : Below w0.heap.size w0 w) (zZ : Kd.R (Kd.int .u8) 5 w w0.heap.size P1_ u9000_ l1) (h : impl_nodeImage_put.f k a0_0 a0_1 a0_2 a0_3 a0_4 a0_5 a0_6 l1 = some r) :
  Calls Tryd.prog 104 #[.agg #[.string a0_0, .string a0_1, .int .i64 a0_2, .int .i64 a0_3, .int .i64 a0_4, .int .i64 a0_5, .int .i64 a0_6], u9000_] w fun e w' => ∃ v0_ : Value, e = .returned (v0_) ∧ Kd.R (Kd.int .u8) 5 w' w0.heap.size (fun k_ => (P1_ k_ ∨ w.heap.size ≤ k_)) v0_ r ∧ Below w0.heap.size w0 w' ∧ Kept w w' (fun k_ => P1_ k_) := by
 have hu100 := Tryd.underlying100
 have zE := Aside0.mk (show Kd.R (Kd.int .u8) 5 w w0.heap.size (fun k_ => (P1_ k_ ∨ w.heap.size ≤ k_)) u9000_ l1 from Kd.R_mono zZ (fun k_ hk => (.inl hk)))
 have HK := Aside0.mk (Kept.refl w (fun k_ => P1_ k_))
 have HW0 := Aside0.mk hB.size
 have HB := Aside0.mk hB
 clear hB
 have H : (if l1.length < 140737488355328 then ((some (l1 ++ [((a0_0.size : Int)) % 256] : List Int)).bind fun y320 => (if y320.length + a0_0.size < 140737488355328 then ((some (y320 ++ bytesOf a0_0 : List Int)).bind fun y323 => (if y323.length < 140737488355328 then ((some (y323 ++ [((a0_1.size : Int)) % 256] : List Int)).bind fun y326 => (if y326.length + a0_1.size < 140737488355328 then (impl_nodeImage_put.l0 a0_2 a0_3 a0_4 a0_5 a0_6 k (y326 ++ bytesOf a0_1) 0) else (none))) else (none))) else (none))) else (none)) = some r := h
 clear h
 by_cases c3 : l1.length < 140737488355328
 ·rw [if_pos c3] at H
  have LMc3 := Aside0.mk c3
  clear c3
  obtain ⟨y320, hy320⟩ : ∃ y_ : List Int, y_ = (l1 ++ [((a0_0.size : Int)) % 256]) := ⟨_, rfl⟩
  replace H : (if y320.length + a0_0.size < 140737488355328 then ((some (y320 ++ bytesOf a0_0 : List Int)).bind fun y323 => (if y323.length < 140737488355328 then ((some (y323 ++ [((a0_1.size : Int)) % 256] : List Int)).bind fun y326 => (if y326.length + a0_1.size < 140737488355328 then (impl_nodeImage_put.l0 a0_2 a0_3 a0_4 a0_5 a0_6 k (y326 ++ bytesOf a0_1) 0) else (none))) else (none))) else (none)) = some r := by first | (rw [hy320]; with_reducible exact H) | (have H2_ := (Option.bind_some _ _).symm.trans H; rw [hy320]; with_reducible exact H2_) | (have H2_ := (Option.bind_some _ _).symm.trans H; with_reducible exact H2_) | with_reducible exact H | (rw [hy320]; exact H) | exact H
  have Ny320 := Aside0.mk hy320
  clear hy320
  by_cases c4 : y320.length + a0_0.size < 140737488355328
  ·rw [if_pos c4] at H
   have LMc4 := Aside0.mk c4
   clear c4
   obtain ⟨y323, hy323⟩ : ∃ y_ : List Int, y_ = (y320 ++ bytesOf a0_0) := ⟨_, rfl⟩
   replace H : (if y323.length < 140737488355328 then ((some (y323 ++ [((a0_1.size : Int)) % 256] : List Int)).bind fun y326 => (if y326.length + a0_1.size < 140737488355328 then (impl_nodeImage_put.l0 a0_2 a0_3 a0_4 a0_5 a0_6 k (y326 ++ bytesOf a0_1) 0) else (none))) else (none)) = some r := by first | (rw [hy323]; with_reducible exact H) | (have H2_ := (Option.bind_some _ _).symm.trans H; rw [hy323]; with_reducible exact H2_) | (have H2_ := (Option.bind_some _ _).symm.trans H; with_reducible exact H2_) | with_reducible exact H | (rw [hy323]; exact H) | exact H
   have Ny323 := Aside0.mk hy323
   clear hy323
   by_cases c5 : y323.length < 140737488355328
   ·rw [if_pos c5] at H
    have LMc5 := Aside0.mk c5
    clear c5
    obtain ⟨y326, hy326⟩ : ∃ y_ : List Int, y_ = (y323 ++ [((a0_1.size : Int)) % 256]) := ⟨_, rfl⟩
    replace H : (if y326.length + a0_1.size < 140737488355328 then (impl_nodeImage_put.l0 a0_2 a0_3 a0_4 a0_5 a0_6 k (y326 ++ bytesOf a0_1) 0) else (none)) = some r := by first | (rw [hy326]; with_reducible exact H) | (have H2_ := (Option.bind_some _ _).symm.trans H; rw [hy326]; with_reducible exact H2_) | (have H2_ := (Option.bind_some _ _).symm.trans H; with_reducible exact H2_) | with_reducible exact H | (rw [hy326]; exact H) | exact H
    have Ny326 := Aside0.mk hy326
    clear hy326
    by_cases c6 : y326.length + a0_1.size < 140737488355328
    ·rw [if_pos c6] at H
     have LMc6 := Aside0.mk c6
     clear c6
     obtain ⟨y329, hy329⟩ : ∃ y_ : List Int, y_ = (y326 ++ bytesOf a0_1) := ⟨_, rfl⟩
     replace H : (impl_nodeImage_put.l0 a0_2 a0_3 a0_4 a0_5 a0_6 k y329 0) = some r := by first | (rw [hy329]; with_reducible exact H) | (have H2_ := (Option.bind_some _ _).symm.trans H; rw [hy329]; with_reducible exact H2_) | (have H2_ := (Option.bind_some _ _).symm.trans H; with_reducible exact H2_) | with_reducible exact H | (rw [hy329]; exact H) | exact H
     have Ny329 := Aside0.mk hy329
     clear hy329
     have H' := Aside0.mk H
     clear H
     go_enter Tryd.func104, Tryd.ntmps104
     try go_wp2_with (first | ((with_reducible refine zr (N := 2) rfl ?_); refine zu ?hg (N := 2) ?hd (cs := #[.string a0_0, .string a0_1, .int .i64 a0_2, .int .i64 a0_3, .int .i64 a0_4, .int .i64 a0_5, .int .i64 a0_6]) (t := 100) ?hr ?_; (case hd => rfl); (case hg => rfl); (case hr => first | (go_simp; done) | (go_simp; rfl)); intro zB hg w7 hbox hb; have n0_ := Aside0.mk (Kd.R_below (by (with_reducible repeat (first | apply Kd.R_alloc | apply Kd.R_drewN | apply Kd.R_drew)); exact zE.out) hb); have n1_ := Aside0.mk (Kept.below (S := (fun k_ => P1_ k_)) (by repeat (first | (with_reducible first | exact HK.out | apply Kept.alloc | apply Kept.drewN | apply Kept.drew) | exact HK.out)) hb); have n2_ := Aside0.mk (zm (by repeat (first | (with_reducible first | exact HB.out | apply zd | apply zb | apply zc) | exact HB.out)) hb); have n3_ := Aside0.mk (hbox); have n4_ := Aside0.mk ((by rw [hg]; exact (by first | exact HK.out.1 | exact (show Kept w _ (fun k_ => P1_ k_) from by repeat (first | (with_reducible first | exact HK.out | apply Kept.alloc | apply Kept.drewN | apply Kept.drew) | exact HK.out)).1) : w.heap.size ≤ zB)); have n5_ := Aside0.mk ((by rw [hg]; exact (zk (by repeat (first | (with_reducible first | exact HB.out | apply zd | apply zb | apply zc) | exact HB.out))) : w0.heap.size ≤ zB)); clear zE; clear HK; clear HB; have zE := n0_; have HK := n1_; have HB := n2_; have zA := n3_; have GW319 := n4_; have zC := n5_; clear n0_ n1_ n2_ n3_ n4_ n5_; clear hb hbox hg))
     have n0_ := Aside0.mk (Kd.R_drew zE.out)
     have n1_ := Aside0.mk (zl zA.out)
     have n2_ := Aside0.mk (Kept.drew HK.out)
     have n3_ := Aside0.mk (zc HB.out)
     clear zE
     clear zA
     clear HK
     clear HB
     have zE := n0_
     have zA := n1_
     have HK := n2_
     have HB := n3_
     clear n0_ n1_ n2_ n3_
     refine start_ (n := 13) (S := fun w' => w'.cell? ⟨zB, 0, none⟩ = some (.string a0_0) ∧ w'.cell? ⟨zB, 1, none⟩ = some (.string a0_1) ∧ w'.cell? ⟨zB, 2, none⟩ = some (.int .i64 a0_2) ∧ w'.cell? ⟨zB, 3, none⟩ = some (.int .i64 a0_3) ∧ w'.cell? ⟨zB, 4, none⟩ = some (.int .i64 a0_4) ∧ w'.cell? ⟨zB, 5, none⟩ = some (.int .i64 a0_5) ∧ w'.cell? ⟨zB, 6, none⟩ = some (.int .i64 a0_6)) (ds := []) #[false, false, false, false, false, false, false, false, false, false, false, false, false] (by kernel_rfl) rfl rfl ⟨(ze zA.out 0).trans rfl, (ze zA.out 1).trans rfl, (ze zA.out 2).trans rfl, (ze zA.out 3).trans rfl, (ze zA.out 4).trans rfl, (ze zA.out 5).trans rfl, (ze zA.out 6).trans rfl⟩ (fun hHeld => ?_); refine with_tabW impl_nodeImage_put.tab1 impl_nodeImage_put.bits1 (fun HT_ HW_ => ?_)
     generalize w7.drew = w8 at zE zA HK HB hHeld ⊢
     refine zv (i := 0) (N := some 7) (v := ?_) (a' := ?_) #[true, false, false, false, false, false, false, false, false, false, false, false, false] rfl rfl (zt HT_.out (by kernel_rfl)) (fun _ _ _ h => h) (Or.inl ⟨by rfl, ?_⟩) ?_ ?_
     rotate_left
     ·intro w'
      go_simp
      with_reducible rfl
     rotate_left
     ·simp only [Act.put, List.setIfInBounds_toArray, List.set_cons_zero, List.set_cons_succ, zp, zq]
      rfl
     refine zv (i := 1) (N := some 8) (v := ?_) (a' := ?_) #[true, true, false, false, false, false, false, false, false, false, false, false, false] rfl rfl (zt HT_.out (by kernel_rfl)) (fun _ _ _ h => h) (Or.inl ⟨by rfl, ?_⟩) ?_ ?_
     rotate_left
     ·intro w'
      go_simp
      with_reducible rfl
     rotate_left
     ·simp only [Act.put, List.setIfInBounds_toArray, List.set_cons_zero, List.set_cons_succ, zp, zq]
      rfl
     refine zv (i := 2) (N := some 9) (v := ?_) (a' := ?_) #[true, true, true, false, false, false, false, false, false, false, false, false, false] rfl rfl (zt HT_.out (by kernel_rfl)) (fun _ _ _ h => h) (Or.inl ⟨by rfl, ?_⟩) ?_ ?_
     rotate_left
     ·intro w'
      go_simp
      with_reducible rfl
     rotate_left
     ·simp only [Act.put, List.setIfInBounds_toArray, List.set_cons_zero, List.set_cons_succ, zp, zq]
      rfl
     refine zv (i := 8) (N := some 15) (v := ?_) (a' := ?_) #[true, true, true, false, false, false, false, false, true, false, false, false, false] rfl rfl (zt HT_.out (by kernel_rfl)) (fun _ _ _ h => h) (Or.inl ⟨by rfl, ?_⟩) ?_ ?_
     rotate_left
     ·intro w'
      go_simp
      with_reducible rfl
     rotate_left
     ·simp only [Act.put, List.setIfInBounds_toArray, List.set_cons_zero, List.set_cons_succ, zp, zq]
      rfl
     refine zv (i := 9) (N := some 16) (v := ?_) (a' := ?_) #[true, true, true, false, false, false, false, false, true, true, false, false, false] rfl rfl (zt HT_.out (by kernel_rfl)) (fun _ _ _ h => h) (Or.inl ⟨by rfl, ?_⟩) ?_ ?_
     rotate_left
     ·intro w'
      go_simp
      with_reducible rfl
     rotate_left
     ·simp only [Act.put, List.setIfInBounds_toArray, List.set_cons_zero, List.set_cons_succ, zp, zq]
      rfl
     refine take_ (i := 3) (N := some 10) (v := ?_) (a' := ?_) #[true, true, true, true, false, false, false, false, true, true, false, false, false] rfl rfl (take_ofW HT_.out HW_.out (by kernel_rfl)) (fun _ _ _ h => h) (Or.inl ⟨by rfl, ?_⟩) hHeld ?_ ?_
     rotate_left
     ·rintro w' ⟨s0, s1, s2, s3, s4, s5, s6⟩
      go_simp
      with_reducible rfl
     rotate_left
     ·simp only [Act.put, List.setIfInBounds_toArray, List.set_cons_zero, List.set_cons_succ, zp, zq]
      rfl
     refine zv (i := 4) (N := some 11) (v := ?_) (a' := ?_) #[true, true, true, true, true, false, false, false, true, true, false, false, false] rfl rfl (zt HT_.out (by kernel_rfl)) (fun _ _ _ h => h) (Or.inl ⟨by rfl, ?_⟩) ?_ ?_
     rotate_left
     ·intro w'
      go_simp
      with_reducible rfl
     rotate_left
     ·simp only [Act.put, List.setIfInBounds_toArray, List.set_cons_zero, List.set_cons_succ, zp, zq]
      rfl
     refine zv (i := 5) (N := some 12) (v := ?_) (a' := ?_) #[true, true, true, true, true, true, false, false, true, true, false, false, false] rfl rfl (zt HT_.out (by kernel_rfl)) (fun _ _ _ h => h) (Or.inl ⟨by rfl, ?_⟩) ?_ ?_
     rotate_left
     ·intro w'
      go_simp
      with_reducible rfl
     rotate_left
     ·simp only [Act.put, List.setIfInBounds_toArray, List.set_cons_zero, List.set_cons_succ, zp, zq]
      rfl
     refine take_ (i := 10) (N := some 17) (v := ?_) (a' := ?_) #[true, true, true, true, true, true, false, false, true, true, true, false, false] rfl rfl (take_ofW HT_.out HW_.out (by kernel_rfl)) (fun _ _ _ h => h) (Or.inl ⟨by rfl, ?_⟩) hHeld ?_ ?_
     rotate_left
     ·rintro w' ⟨s0, s1, s2, s3, s4, s5, s6⟩
      go_simp
      with_reducible rfl
     rotate_left
     ·simp only [Act.put, List.setIfInBounds_toArray, List.set_cons_zero, List.set_cons_succ, zp, zq]
      rfl
     refine one_ (i := 6) (N := some 13) #[true, true, true, true, true, true, true, false, true, true, true, false, false] rfl rfl (one_of HT_.out (by kernel_rfl)) (by decide) (fun K hK => ?_)
     refine value_ (w1 := ?_) (v := ?_) (by rfl) rfl ?_ ?_
     rotate_left 2
     ·go_simp
      constructor
      ·rfl
      ·rfl
     refine hK.out _ _ ⟨(ze (zi zA.out _) 0).trans rfl, (ze (zi zA.out _) 1).trans rfl, (ze (zi zA.out _) 2).trans rfl, (ze (zi zA.out _) 3).trans rfl, (ze (zi zA.out _) 4).trans rfl, (ze (zi zA.out _) 5).trans rfl, (ze (zi zA.out _) 6).trans rfl⟩ (fun hHeld => ?_)
     clear hK K
     refine norm_ (a' := ?_) ?_ ?_
     rotate_left
     ·show Act.put _ (some 13) _ = _
      simp only [Act.put, List.setIfInBounds_toArray, List.set_cons_zero, List.set_cons_succ, zp, zq]
      rfl
     refine one_ (i := 7) (N := some 14) #[true, true, true, true, true, true, true, true, true, true, true, false, false] rfl rfl (one_of HT_.out (by kernel_rfl)) (by decide) (fun K hK => ?_)
     refine Kd.R_append_step (Kd.int .u8) (w0 := w0) w0.heap.size (by rfl) (.tmp 7) (.tmp 13) 22 5 (.int .u8 0) 1 rfl Tryd.underlying22 info5 rfl (by decide) (by omega) u9000_ l1 (((a0_0.size : Int)) % 256) [.int .u8 (((a0_0.size : Int)) % 256)] (fun k_ => (P1_ k_ ∨ w.heap.size ≤ k_)) (fun _ => False) rfl rfl ?aP (fun _ hk => hk.elim) ?aF ?aO ?aB ?aS ?aL ?_
     (case aP => exact rfl)
     (case aB => exact (by repeat (first | (with_reducible first | exact HB.out | apply zd | apply zb | apply zc | refine zh ?_ zC.out) | exact HB.out)))
     (case aF => exact (fun k_ hk => (.inr (Nat.le_trans (by first | exact HK.out.1 | exact (show Kept w _ (fun k_ => P1_ k_) from by repeat (first | (with_reducible first | exact HK.out | apply Kept.alloc | apply Kept.drewN | apply Kept.drew | refine Kept.setCell ?_ (.inr GW319.out) _) | exact HK.out)).1) hk))))
     (case aO => exact (by (with_reducible repeat (first | apply Kd.R_alloc | apply Kd.R_drewN | apply Kd.R_drew)); exact zE.out))
     (case aS => exact (zk (by repeat (first | (with_reducible first | exact HB.out | apply zd | apply zb | apply zc | refine zh ?_ zC.out) | exact HB.out))))
     (case aL => have := LMc3.out; omega)
     intro v321 w9 ho hb hg hat
     rw [← Ny320.out] at ho
     have n0_ := Aside0.mk (zz (g := zB) (o := .cells #[.string a0_0, .string a0_1, .int .i64 a0_2, .int .i64 a0_3, .int .i64 a0_4, .int .i64 a0_5, .int .i64 a0_6] 100 (0, 0)) (by (with_reducible repeat (first | refine zj ?_ _ | refine zl ?_ | refine zi ?_ _)); exact zA.out) hg (Kd.R_ne zE.out zA.out (by decide)))
     have n1_ := Aside0.mk (hb)
     have n2_ := Aside0.mk (Kept.of_grown (S := (fun k_ => P1_ k_)) hg (by repeat (first | (with_reducible first | exact HK.out | apply Kept.alloc | apply Kept.drewN | apply Kept.drew | refine Kept.setCell ?_ (.inr GW319.out) _) | exact HK.out)) (fun k_ e_ => (zE.out.1 k_ e_)))
     have n3_ := Aside0.mk (ho)
     clear zA
     clear HB
     clear HK
     clear zE
     have zA := n0_
     have HB := n1_
     have HK := n2_
     have zG := n3_
     clear n0_ n1_ n2_ n3_
     clear ho hb hg hat
     refine hK.out _ _ ⟨(ze zA.out 0).trans rfl, (ze zA.out 1).trans rfl, (ze zA.out 2).trans rfl, (ze zA.out 3).trans rfl, (ze zA.out 4).trans rfl, (ze zA.out 5).trans rfl, (ze zA.out 6).trans rfl⟩ (fun hHeld => ?_)
     clear hK K
     refine norm_ (a' := ?_) ?_ ?_
     rotate_left
     ·show Act.put _ (some 14) _ = _
      simp only [Act.put, List.setIfInBounds_toArray, List.set_cons_zero, List.set_cons_succ, zp, zq]
      rfl
     refine one_ (i := 11) (N := some 18) #[true, true, true, true, true, true, true, true, true, true, true, true, false] rfl rfl (one_of HT_.out (by kernel_rfl)) (by decide) (fun K hK => ?_)
     refine Go.Proofs.YtjoafknckmoojaaDoorH.append_str_step (w0 := w0) w0.heap.size (by rfl) (.tmp 14) _ 22 9 5 rfl Tryd.underlying22 Tryd.underlying9 info5 v321 y320 a0_0 (fun k_ => (P1_ k_ ∨ w.heap.size ≤ k_)) rfl rfl ?aF ?aO ?aB ?aS ?aL ?_
     (case aB => exact (by repeat (first | (with_reducible first | exact HB.out | apply zd | apply zb | apply zc | refine zh ?_ zC.out) | exact HB.out)))
     (case aF => exact (fun k_ hk => (.inr (Nat.le_trans (by first | exact HK.out.1 | exact (show Kept w _ (fun k_ => P1_ k_) from by repeat (first | (with_reducible first | exact HK.out | apply Kept.alloc | apply Kept.drewN | apply Kept.drew | refine Kept.setCell ?_ (.inr GW319.out) _) | exact HK.out)).1) hk))))
     (case aO => exact (by (with_reducible repeat (first | apply Kd.R_alloc | apply Kd.R_drewN | apply Kd.R_drew)); exact zG.out))
     (case aS => exact (zk (by repeat (first | (with_reducible first | exact HB.out | apply zd | apply zb | apply zc | refine zh ?_ zC.out) | exact HB.out))))
     (case aL => have := LMc4.out; omega)
     intro v324 w10 ho hb hg hat
     rw [← Ny323.out] at ho
     have n0_ := Aside0.mk (zz (g := zB) (o := .cells #[.string a0_0, .string a0_1, .int .i64 a0_2, .int .i64 a0_3, .int .i64 a0_4, .int .i64 a0_5, .int .i64 a0_6] 100 (0, 0)) (by (with_reducible repeat (first | refine zj ?_ _ | refine zl ?_ | refine zi ?_ _)); exact zA.out) hg (Kd.R_ne zG.out zA.out (by decide)))
     have n1_ := Aside0.mk (hb)
     have n2_ := Aside0.mk (Kept.of_grown (S := (fun k_ => P1_ k_)) hg (by repeat (first | (with_reducible first | exact HK.out | apply Kept.alloc | apply Kept.drewN | apply Kept.drew | refine Kept.setCell ?_ (.inr GW319.out) _) | exact HK.out)) (fun k_ e_ => (zG.out.1 k_ e_)))
     have n3_ := Aside0.mk (ho)
     clear zA
     clear HB
     clear HK
     clear zG
     have zA := n0_
     have HB := n1_
     have HK := n2_
     have zD := n3_
     clear n0_ n1_ n2_ n3_
     clear ho hb hg hat
     refine hK.out _ _ ⟨(ze zA.out 0).trans rfl, (ze zA.out 1).trans rfl, (ze zA.out 2).trans rfl, (ze zA.out 3).trans rfl, (ze zA.out 4).trans rfl, (ze zA.out 5).trans rfl, (ze zA.out 6).trans rfl⟩ (fun hHeld => ?_)
     clear hK K
     refine norm_ (a' := ?_) ?_ ?_
     rotate_left
     ·show Act.put _ (some 18) _ = _
      simp only [Act.put, List.setIfInBounds_toArray, List.set_cons_zero, List.set_cons_succ, zp, zq]
      rfl
     refine zv (i := 12) (N := some 1) (v := ?_) (a' := ?_) #[true, true, true, true, true, true, true, true, true, true, true, true, true] rfl rfl (zt HT_.out (by kernel_rfl)) (fun _ _ _ h => h) (Or.inl ⟨by rfl, ?_⟩) ?_ ?_
     rotate_left
     ·intro w'
      go_simp
      with_reducible rfl
     rotate_left
     ·simp only [Act.put, List.setIfInBounds_toArray, List.set_cons_zero, List.set_cons_succ, zp, zq]
      rfl
     refine done_ (done_of HT_.out (by kernel_rfl)) ?_
     try go_wp2
     have n0_ := Aside0.mk (Kd.R_drew zD.out)
     have n1_ := Aside0.mk (zl zA.out)
     have n2_ := Aside0.mk (Kept.drew HK.out)
     have n3_ := Aside0.mk (zc HB.out)
     clear zD
     clear zA
     clear HK
     clear HB
     have zD := n0_
     have zA := n1_
     have HK := n2_
     have HB := n3_
     clear n0_ n1_ n2_ n3_
     refine start_ (n := 13) (S := fun w' => w'.cell? ⟨zB, 0, none⟩ = some (.string a0_0) ∧ w'.cell? ⟨zB, 1, none⟩ = some (.string a0_1) ∧ w'.cell? ⟨zB, 2, none⟩ = some (.int .i64 a0_2) ∧ w'.cell? ⟨zB, 3, none⟩ = some (.int .i64 a0_3) ∧ w'.cell? ⟨zB, 4, none⟩ = some (.int .i64 a0_4) ∧ w'.cell? ⟨zB, 5, none⟩ = some (.int .i64 a0_5) ∧ w'.cell? ⟨zB, 6, none⟩ = some (.int .i64 a0_6)) (ds := []) #[false, false, false, false, false, false, false, false, false, false, false, false, false] (by kernel_rfl) rfl rfl ⟨(ze zA.out 0).trans rfl, (ze zA.out 1).trans rfl, (ze zA.out 2).trans rfl, (ze zA.out 3).trans rfl, (ze zA.out 4).trans rfl, (ze zA.out 5).trans rfl, (ze zA.out 6).trans rfl⟩ (fun hHeld => ?_); refine with_tabW impl_nodeImage_put.tab2 impl_nodeImage_put.bits2 (fun HT_ HW_ => ?_)
     generalize w10.drew = w11 at zD zA HK HB hHeld ⊢
     refine zv (i := 0) (N := some 19) (v := ?_) (a' := ?_) #[true, false, false, false, false, false, false, false, false, false, false, false, false] rfl rfl (zt HT_.out (by kernel_rfl)) (fun _ _ _ h => h) (Or.inl ⟨by rfl, ?_⟩) ?_ ?_
     rotate_left
     ·intro w'
      go_simp
      with_reducible rfl
     rotate_left
     ·simp only [Act.put, List.setIfInBounds_toArray, List.set_cons_zero, List.set_cons_succ, zp, zq]
      rfl
     refine zv (i := 1) (N := some 20) (v := ?_) (a' := ?_) #[true, true, false, false, false, false, false, false, false, false, false, false, false] rfl rfl (zt HT_.out (by kernel_rfl)) (fun _ _ _ h => h) (Or.inl ⟨by rfl, ?_⟩) ?_ ?_
     rotate_left
     ·intro w'
      go_simp
      with_reducible rfl
     rotate_left
     ·simp only [Act.put, List.setIfInBounds_toArray, List.set_cons_zero, List.set_cons_succ, zp, zq]
      rfl
     refine zv (i := 2) (N := some 21) (v := ?_) (a' := ?_) #[true, true, true, false, false, false, false, false, false, false, false, false, false] rfl rfl (zt HT_.out (by kernel_rfl)) (fun _ _ _ h => h) (Or.inl ⟨by rfl, ?_⟩) ?_ ?_
     rotate_left
     ·intro w'
      go_simp
      with_reducible rfl
     rotate_left
     ·simp only [Act.put, List.setIfInBounds_toArray, List.set_cons_zero, List.set_cons_succ, zp, zq]
      rfl
     refine zv (i := 8) (N := some 27) (v := ?_) (a' := ?_) #[true, true, true, false, false, false, false, false, true, false, false, false, false] rfl rfl (zt HT_.out (by kernel_rfl)) (fun _ _ _ h => h) (Or.inl ⟨by rfl, ?_⟩) ?_ ?_
     rotate_left
     ·intro w'
      go_simp
      with_reducible rfl
     rotate_left
     ·simp only [Act.put, List.setIfInBounds_toArray, List.set_cons_zero, List.set_cons_succ, zp, zq]
      rfl
     refine zv (i := 9) (N := some 28) (v := ?_) (a' := ?_) #[true, true, true, false, false, false, false, false, true, true, false, false, false] rfl rfl (zt HT_.out (by kernel_rfl)) (fun _ _ _ h => h) (Or.inl ⟨by rfl, ?_⟩) ?_ ?_
     rotate_left
     ·intro w'
      go_simp
      with_reducible rfl
     rotate_left
     ·simp only [Act.put, List.setIfInBounds_toArray, List.set_cons_zero, List.set_cons_succ, zp, zq]
      rfl
     refine take_ (i := 3) (N := some 22) (v := ?_) (a' := ?_) #[true, true, true, true, false, false, false, false, true, true, false, false, false] rfl rfl (take_ofW HT_.out HW_.out (by kernel_rfl)) (fun _ _ _ h => h) (Or.inl ⟨by rfl, ?_⟩) hHeld ?_ ?_
     rotate_left
     ·rintro w' ⟨s0, s1, s2, s3, s4, s5, s6⟩
      go_simp
      with_reducible rfl
     rotate_left
     ·simp only [Act.put, List.setIfInBounds_toArray, List.set_cons_zero, List.set_cons_succ, zp, zq]
      rfl
     refine zv (i := 4) (N := some 23) (v := ?_) (a' := ?_) #[true, true, true, true, true, false, false, false, true, true, false, false, false] rfl rfl (zt HT_.out (by kernel_rfl)) (fun _ _ _ h => h) (Or.inl ⟨by rfl, ?_⟩) ?_ ?_
     rotate_left
     ·intro w'
      go_simp
      with_reducible rfl
     rotate_left
     ·simp only [Act.put, List.setIfInBounds_toArray, List.set_cons_zero, List.set_cons_succ, zp, zq]
      rfl
     refine zv (i := 5) (N := some 24) (v := ?_) (a' := ?_) #[true, true, true, true, true, true, false, false, true, true, false, false, false] rfl rfl (zt HT_.out (by kernel_rfl)) (fun _ _ _ h => h) (Or.inl ⟨by rfl, ?_⟩) ?_ ?_
     rotate_left
     ·intro w'
      go_simp
      with_reducible rfl
     rotate_left
     ·simp only [Act.put, List.setIfInBounds_toArray, List.set_cons_zero, List.set_cons_succ, zp, zq]
      rfl
     refine take_ (i := 10) (N := some 29) (v := ?_) (a' := ?_) #[true, true, true, true, true, true, false, false, true, true, true, false, false] rfl rfl (take_ofW HT_.out HW_.out (by kernel_rfl)) (fun _ _ _ h => h) (Or.inl ⟨by rfl, ?_⟩) hHeld ?_ ?_
     rotate_left
     ·rintro w' ⟨s0, s1, s2, s3, s4, s5, s6⟩
      go_simp
      with_reducible rfl
     rotate_left
     ·simp only [Act.put, List.setIfInBounds_toArray, List.set_cons_zero, List.set_cons_succ, zp, zq]
      rfl
     refine one_ (i := 6) (N := some 25) #[true, true, true, true, true, true, true, false, true, true, true, false, false] rfl rfl (one_of HT_.out (by kernel_rfl)) (by decide) (fun K hK => ?_)
     refine value_ (w1 := ?_) (v := ?_) (by rfl) rfl ?_ ?_
     rotate_left 2
     ·go_simp
      constructor
      ·rfl
      ·rfl
     refine hK.out _ _ ⟨(ze (zi zA.out _) 0).trans rfl, (ze (zi zA.out _) 1).trans rfl, (ze (zi zA.out _) 2).trans rfl, (ze (zi zA.out _) 3).trans rfl, (ze (zi zA.out _) 4).trans rfl, (ze (zi zA.out _) 5).trans rfl, (ze (zi zA.out _) 6).trans rfl⟩ (fun hHeld => ?_)
     clear hK K
     refine norm_ (a' := ?_) ?_ ?_
     rotate_left
     ·show Act.put _ (some 25) _ = _
      simp only [Act.put, List.setIfInBounds_toArray, List.set_cons_zero, List.set_cons_succ, zp, zq]
      rfl
     refine one_ (i := 7) (N := some 26) #[true, true, true, true, true, true, true, true, true, true, true, false, false] rfl rfl (one_of HT_.out (by kernel_rfl)) (by decide) (fun K hK => ?_)
     refine Kd.R_append_step (Kd.int .u8) (w0 := w0) w0.heap.size (by rfl) (.tmp 19) (.tmp 25) 22 5 (.int .u8 0) 1 rfl Tryd.underlying22 info5 rfl (by decide) (by omega) v324 y323 (((a0_1.size : Int)) % 256) [.int .u8 (((a0_1.size : Int)) % 256)] (fun k_ => (P1_ k_ ∨ w.heap.size ≤ k_)) (fun _ => False) rfl rfl ?aP (fun _ hk => hk.elim) ?aF ?aO ?aB ?aS ?aL ?_
     (case aP => exact rfl)
     (case aB => exact (by repeat (first | (with_reducible first | exact HB.out | apply zd | apply zb | apply zc | refine zh ?_ zC.out) | exact HB.out)))
     (case aF => exact (fun k_ hk => (.inr (Nat.le_trans (by first | exact HK.out.1 | exact (show Kept w _ (fun k_ => P1_ k_) from by repeat (first | (with_reducible first | exact HK.out | apply Kept.alloc | apply Kept.drewN | apply Kept.drew | refine Kept.setCell ?_ (.inr GW319.out) _) | exact HK.out)).1) hk))))
     (case aO => exact (by (with_reducible repeat (first | apply Kd.R_alloc | apply Kd.R_drewN | apply Kd.R_drew)); exact zD.out))
     (case aS => exact (zk (by repeat (first | (with_reducible first | exact HB.out | apply zd | apply zb | apply zc | refine zh ?_ zC.out) | exact HB.out))))
     (case aL => have := LMc5.out; omega)
     intro v327 w12 ho hb hg hat
     rw [← Ny326.out] at ho
     have n0_ := Aside0.mk (zz (g := zB) (o := .cells #[.string a0_0, .string a0_1, .int .i64 a0_2, .int .i64 a0_3, .int .i64 a0_4, .int .i64 a0_5, .int .i64 a0_6] 100 (0, 0)) (by (with_reducible repeat (first | refine zj ?_ _ | refine zl ?_ | refine zi ?_ _)); exact zA.out) hg (Kd.R_ne zD.out zA.out (by decide)))
     have n1_ := Aside0.mk (hb)
     have n2_ := Aside0.mk (Kept.of_grown (S := (fun k_ => P1_ k_)) hg (by repeat (first | (with_reducible first | exact HK.out | apply Kept.alloc | apply Kept.drewN | apply Kept.drew | refine Kept.setCell ?_ (.inr GW319.out) _) | exact HK.out)) (fun k_ e_ => (zD.out.1 k_ e_)))
     have n3_ := Aside0.mk (ho)
     clear zA
     clear HB
     clear HK
     clear zD
     have zA := n0_
     have HB := n1_
     have HK := n2_
     have zH := n3_
     clear n0_ n1_ n2_ n3_
     clear ho hb hg hat
     refine hK.out _ _ ⟨(ze zA.out 0).trans rfl, (ze zA.out 1).trans rfl, (ze zA.out 2).trans rfl, (ze zA.out 3).trans rfl, (ze zA.out 4).trans rfl, (ze zA.out 5).trans rfl, (ze zA.out 6).trans rfl⟩ (fun hHeld => ?_)
     clear hK K
     refine norm_ (a' := ?_) ?_ ?_
     rotate_left
     ·show Act.put _ (some 26) _ = _
      simp only [Act.put, List.setIfInBounds_toArray, List.set_cons_zero, List.set_cons_succ, zp, zq]
      rfl
     refine one_ (i := 11) (N := some 30) #[true, true, true, true, true, true, true, true, true, true, true, true, false] rfl rfl (one_of HT_.out (by kernel_rfl)) (by decide) (fun K hK => ?_)
     refine Go.Proofs.YtjoafknckmoojaaDoorH.append_str_step (w0 := w0) w0.heap.size (by rfl) (.tmp 26) _ 22 9 5 rfl Tryd.underlying22 Tryd.underlying9 info5 v327 y326 a0_1 (fun k_ => (P1_ k_ ∨ w.heap.size ≤ k_)) rfl rfl ?aF ?aO ?aB ?aS ?aL ?_
     (case aB => exact (by repeat (first | (with_reducible first | exact HB.out | apply zd | apply zb | apply zc | refine zh ?_ zC.out) | exact HB.out)))
     (case aF => exact (fun k_ hk => (.inr (Nat.le_trans (by first | exact HK.out.1 | exact (show Kept w _ (fun k_ => P1_ k_) from by repeat (first | (with_reducible first | exact HK.out | apply Kept.alloc | apply Kept.drewN | apply Kept.drew | refine Kept.setCell ?_ (.inr GW319.out) _) | exact HK.out)).1) hk))))
     (case aO => exact (by (with_reducible repeat (first | apply Kd.R_alloc | apply Kd.R_drewN | apply Kd.R_drew)); exact zH.out))
     (case aS => exact (zk (by repeat (first | (with_reducible first | exact HB.out | apply zd | apply zb | apply zc | refine zh ?_ zC.out) | exact HB.out))))
     (case aL => have := LMc6.out; omega)
     intro v330 w13 ho hb hg hat
     rw [← Ny329.out] at ho
     have n0_ := Aside0.mk (zz (g := zB) (o := .cells #[.string a0_0, .string a0_1, .int .i64 a0_2, .int .i64 a0_3, .int .i64 a0_4, .int .i64 a0_5, .int .i64 a0_6] 100 (0, 0)) (by (with_reducible repeat (first | refine zj ?_ _ | refine zl ?_ | refine zi ?_ _)); exact zA.out) hg (Kd.R_ne zH.out zA.out (by decide)))
     have n1_ := Aside0.mk (hb)
     have n2_ := Aside0.mk (Kept.of_grown (S := (fun k_ => P1_ k_)) hg (by repeat (first | (with_reducible first | exact HK.out | apply Kept.alloc | apply Kept.drewN | apply Kept.drew | refine Kept.setCell ?_ (.inr GW319.out) _) | exact HK.out)) (fun k_ e_ => (zH.out.1 k_ e_)))
     have n3_ := Aside0.mk (ho)
     clear zA
     clear HB
     clear HK
     clear zH
     have zA := n0_
     have HB := n1_
     have HK := n2_
     have zW := n3_
     clear n0_ n1_ n2_ n3_
     clear ho hb hg hat
     refine hK.out _ _ ⟨(ze zA.out 0).trans rfl, (ze zA.out 1).trans rfl, (ze zA.out 2).trans rfl, (ze zA.out 3).trans rfl, (ze zA.out 4).trans rfl, (ze zA.out 5).trans rfl, (ze zA.out 6).trans rfl⟩ (fun hHeld => ?_)
     clear hK K
     refine norm_ (a' := ?_) ?_ ?_
     rotate_left
     ·show Act.put _ (some 30) _ = _
      simp only [Act.put, List.setIfInBounds_toArray, List.set_cons_zero, List.set_cons_succ, zp, zq]
      rfl
     refine zv (i := 12) (N := some 1) (v := ?_) (a' := ?_) #[true, true, true, true, true, true, true, true, true, true, true, true, true] rfl rfl (zt HT_.out (by kernel_rfl)) (fun _ _ _ h => h) (Or.inl ⟨by rfl, ?_⟩) ?_ ?_
     rotate_left
     ·intro w'
      go_simp
      with_reducible rfl
     rotate_left
     ·simp only [Act.put, List.setIfInBounds_toArray, List.set_cons_zero, List.set_cons_succ, zp, zq]
      rfl
     refine done_ (done_of HT_.out (by kernel_rfl)) ?_
     have zI : w13.cell? ⟨zB, 0, none⟩ = some (.string a0_0) := (ze zA.out 0).trans rfl
     have zJ : w13.cell? ⟨zB, 1, none⟩ = some (.string a0_1) := (ze zA.out 1).trans rfl
     have zK : w13.cell? ⟨zB, 2, none⟩ = some (.int .i64 a0_2) := (ze zA.out 2).trans rfl
     have zL : w13.cell? ⟨zB, 3, none⟩ = some (.int .i64 a0_3) := (ze zA.out 3).trans rfl
     have zM : w13.cell? ⟨zB, 4, none⟩ = some (.int .i64 a0_4) := (ze zA.out 4).trans rfl
     have zN : w13.cell? ⟨zB, 5, none⟩ = some (.int .i64 a0_5) := (ze zA.out 5).trans rfl
     have zO : w13.cell? ⟨zB, 6, none⟩ = some (.int .i64 a0_6) := (ze zA.out 6).trans rfl
     have zP := zg zA.out 0
     have zQ := zg zA.out 1
     have zR := zg zA.out 2
     have zS := zg zA.out 3
     have zT := zg zA.out 4
     have zU := zg zA.out 5
     have zV := zg zA.out 6
     try go_wp2
     go_loopg [1, 47] k (fun kq v1 v47 w' => ∃ (x1_1 : List Int) (x47_1 : Int), v47 = .int .i64 x47_1 ∧ Aside0 (impl_nodeImage_put.l0 a0_2 a0_3 a0_4 a0_5 a0_6 kq x1_1 x47_1 = some r) ∧ Aside0 (kq ≤ k) ∧ Aside0 (Kd.R (Kd.int .u8) 5 w' w0.heap.size (fun k_ => (P1_ k_ ∨ w.heap.size ≤ k_)) v1 x1_1) ∧ Aside0 (w'.heap[zB]? = some (.cells #[.string a0_0, .string a0_1, .int .i64 a0_2, .int .i64 a0_3, .int .i64 a0_4, .int .i64 a0_5, .int .i64 a0_6] 100 (0, 0))) ∧ Aside0 (Kept w w' (fun k_ => P1_ k_)) ∧ Aside0 (Below w0.heap.size w0 w'))
     case atStart => exact ⟨(y329), (0), (by first | rfl | (simp; done) | (simp [*]; done)), H', ⟨Nat.le_refl _⟩, ⟨by (with_reducible repeat (first | apply Kd.R_alloc | apply Kd.R_drewN | apply Kd.R_drew)); exact zW.out⟩, ⟨by (with_reducible repeat (first | refine zj ?_ _ | refine zl ?_ | refine zi ?_ _)); exact zA.out⟩, ⟨by repeat (first | (with_reducible first | exact HK.out | apply Kept.alloc | apply Kept.drewN | apply Kept.drew | refine Kept.setCell ?_ (.inr GW319.out) _) | exact HK.out)⟩, ⟨by repeat (first | (with_reducible first | exact HB.out | apply zd | apply zb | apply zc | refine zh ?_ zC.out) | exact HB.out)⟩⟩
     case round =>
      clear H'
      try clear c1
      try clear p2
      try clear c3
      try clear c4
      try clear c5
      try clear c6
      try clear c10
      try clear zI
      try clear zJ
      try clear zK
      try clear zL
      try clear zM
      try clear zN
      try clear zO
      try clear zP
      try clear zQ
      try clear zR
      try clear zS
      try clear zT
      try clear zU
      try clear zV
      obtain ⟨x1_1, x47_1, rfl, HA, HK1, zF, zA, HK, HB⟩ := hrel
      cases gk with
      | zero => exact absurd HA.out (by simp [impl_nodeImage_put.l0])
      | succ k1 =>
       have H := HA.out
       clear HA
       simp only [impl_nodeImage_put.l0] at H
       by_cases c15 : x47_1 < 5
       ·rw [if_pos c15] at H
        have c15b0 : decide (x47_1 < 5) = true := decide_eq_true c15
        clear c15
        by_cases cz : 0 ≤ x47_1
        rotate_left
        ·rw [if_neg cz] at H; exact absurd H (by simp)
        rw [if_pos cz] at H
        have HZ5 := Aside0.mk (And.intro cz (of_decide_eq_true c15b0))
        clear cz
        replace H := Option.bind_eq_some_iff.mp H
        obtain ⟨t332, A160, H⟩ := H
        replace H : (impl_nodeImage_put.l0 a0_2 a0_3 a0_4 a0_5 a0_6 k1 t332 (wrap64 (x47_1 + 1))) = some r := H
        have A16 := Aside0.mk A160
        clear A160
        have H' := Aside0.mk H
        clear H
        obtain ⟨Ao17, co17, eo17⟩ := Kd.R_slice zF.out
        subst eo17
        go_wp2_with (first | (refine YtjoafknckmoojaaDoorH.index_five rfl (N := 49) rfl rfl rfl rfl Tryd.underlying218 Tryd.underlying2 (by kernel_rfl) HZ5.out.1 HZ5.out.2 ?_) | ((with_reducible refine zn (f := 146) rfl ?_); refine zx (some 52) rfl rfl Tryd.func146 (by kernel_rfl) rfl #[.slice Ao17 x1_1.length co17, .int .i64 4, .int .i64 (YtjoafknckmoojaaDoorH.five a0_2 a0_3 a0_4 a0_5 a0_6 x47_1)] rfl (by (try simp only [List.map_toArray, List.map_cons, List.map_nil]); first | done | rfl | (simp only [List.length_drop, List.length_take]; rfl)) ?_; (with_reducible refine (impl_big.calls k1 (fun k_ => some k_ = (.slice Ao17 x1_1.length co17 : Value).ownBlock) (.slice Ao17 x1_1.length co17) x1_1 4 (YtjoafknckmoojaaDoorH.five a0_2 a0_3 a0_4 a0_5 a0_6 x47_1) t332 w0 _ ?side1 ?side2 A16.out).mono ?_); (case side1 => repeat (first | (with_reducible first | exact HB.out | apply zd | apply zb | apply zc | refine zh ?_ zC.out) | exact HB.out)); (case side2 => exact Kd.R_tight rfl zF.out); rintro e w18 ⟨v333, rfl, zY, hb, hkp⟩; refine ⟨_, rfl, ?_⟩; have n0_ := Aside0.mk (blk_kept (by (with_reducible repeat (first | refine zj ?_ _ | refine zl ?_ | refine zi ?_ _)); exact zA.out) hkp (fun hs_ => (fun e_ => (Kd.R_ne zF.out zA.out (by decide)) e_) hs_)); have n1_ := Aside0.mk (Kd.R_mono (ok' := fun k_ => (P1_ k_ ∨ w.heap.size ≤ k_)) zY (fun k_ hk_ => Or.elim hk_ (fun hs_ => (zF.out.1 k_ (hs_).symm)) (fun hn_ => (.inr (Nat.le_trans (by first | exact HK.out.1 | exact (show Kept w _ (fun k_ => P1_ k_) from by repeat (first | (with_reducible first | exact HK.out | apply Kept.alloc | apply Kept.drewN | apply Kept.drew | refine Kept.setCell ?_ (.inr GW319.out) _) | exact HK.out)).1) hn_))))); have n2_ := Aside0.mk (Kept.then_ (S := (fun k_ => P1_ k_)) (by repeat (first | (with_reducible first | exact HK.out | apply Kept.alloc | apply Kept.drewN | apply Kept.drew | refine Kept.setCell ?_ (.inr GW319.out) _) | exact HK.out)) hkp (fun k_ hs_ => (fun e_ => (zF.out.1 k_ e_.symm)) hs_)); have n3_ := Aside0.mk (hb); clear zA; clear HK; clear HB; clear zF; have zA := n0_; have zX := n1_; have HK := n2_; have HB := n3_; clear n0_ n1_ n2_ n3_; (try clear hb); (try clear hkp); (try clear zY)))
        go_roundg k1
        case measure => have := HK1.out; omega
        case rel => exact ⟨(t332), (wrap64 (x47_1 + 1)), (by first | rfl | (simp; done) | (simp [*]; done)), H', ⟨by have := HK1.out; omega⟩, ⟨by (with_reducible repeat (first | apply Kd.R_alloc | apply Kd.R_drewN | apply Kd.R_drew)); exact zX.out⟩, ⟨by (with_reducible repeat (first | refine zj ?_ _ | refine zl ?_ | refine zi ?_ _)); exact zA.out⟩, ⟨by repeat (first | (with_reducible first | exact HK.out | apply Kept.alloc | apply Kept.drewN | apply Kept.drew | refine Kept.setCell ?_ (.inr GW319.out) _) | exact HK.out)⟩, ⟨by repeat (first | (with_reducible first | exact HB.out | apply zd | apply zb | apply zc | refine zh ?_ zC.out) | exact HB.out)⟩⟩
       ·rw [if_neg c15] at H
        have c15b0 : decide (x47_1 < 5) = false := decide_eq_false c15
        clear c15
        obtain rfl := Option.some.inj H
        go_wp2
        go_ret
        exact ⟨_, by first | rfl | (simp [errW_none, errW_some] <;> rfl) | (simp [*, errW_none, errW_some] <;> rfl), by (with_reducible repeat (first | apply Kd.R_alloc | apply Kd.R_drewN | apply Kd.R_drew)); exact zF.out, by repeat (first | (with_reducible first | exact HB.out | apply zd | apply zb | apply zc | refine zh ?_ zC.out) | exact HB.out), by repeat (first | (with_reducible first | exact HK.out | apply Kept.alloc | apply Kept.drewN | apply Kept.drew | refine Kept.setCell ?_ (.inr GW319.out) _) | exact HK.out)⟩
    ·rw [if_neg c6] at H
     exact absurd H (by simp)
   ·rw [if_neg c5] at H
    exact absurd H (by simp)
  ·rw [if_neg c4] at H
   exact absurd H (by simp)
 ·rw [if_neg c3] at H
  exact absurd H (by simp)

def impl_EncodeTree.l0 : Nat → List Int → List (S92) → Int → Int → Option (List Int)
 | 0, _, _, _, _ => none
 | k + 1, x3, x10, x11, x12 => if x12 < x11 then (if 0 ≤ x12 then (if x12 < (x10.length : Int) then ((impl_nodeImage_put.f k ((rd_T92 x10 x12).f0) ((rd_T92 x10 x12).f1) ((rd_T92 x10 x12).f2) ((rd_T92 x10 x12).f3) ((rd_T92 x10 x12).f4) ((rd_T92 x10 x12).f5) ((rd_T92 x10 x12).f6) x3).bind fun t339 => (impl_EncodeTree.l0 k t339 x10 x11 (wrap64 (x12 + 1)))) else (none)) else (none)) else (some x3)
def impl_EncodeTree.f (k : Nat) (l0_0 : List (S92)) : Option (List Int) := (impl_ValidTree.f k l0_0).bind fun t336 => (if t336 = true then (impl_EncodeTree.l0 k ([] : List Int) l0_0 (l0_0.length : Int) 0) else (some ([] : List Int)))
theorem impl_EncodeTree.mono_l : ∀ k, (∀ y0 y1 y2 y3, LeO (impl_EncodeTree.l0 k y0 y1 y2 y3) (impl_EncodeTree.l0 (k + 1) y0 y1 y2 y3))
 | 0 => fun _ _ _ _ r h => by simp [impl_EncodeTree.l0] at h
 | k + 1 => by
  have ih0 := impl_EncodeTree.mono_l k
  ·intro y0 y1 y2 y3
   unfold impl_EncodeTree.l0
   repeat' first
   | (with_reducible exact ih0 _ _ _ _)
   | (with_reducible exact impl_ValidTree.mono _ _)
   | (with_reducible exact impl_nodeImage_put.mono _ _ _ _ _ _ _ _ _)
   | (with_reducible exact LeO.refl _)
   | (with_reducible exact LeO.none _)
   | (with_reducible refine LeO.ite ?_ ?_)
   | (with_reducible refine LeO.bind ?_ (fun _ => ?_))
   | exact ih0 _ _ _ _
   | exact impl_ValidTree.mono _ _
   | exact impl_nodeImage_put.mono _ _ _ _ _ _ _ _ _
   | exact LeO.none _
   | refine LeO.ite ?_ ?_
   | refine LeO.bind ?_ (fun _ => ?_)
theorem impl_EncodeTree.mono : ∀ a0 k, LeO (impl_EncodeTree.f k a0) (impl_EncodeTree.f (k + 1) a0) := by
 intro a0 k
 have ih0 := impl_EncodeTree.mono_l k
 unfold impl_EncodeTree.f
 repeat' first
   | (with_reducible exact ih0 _ _ _ _)
   | (with_reducible exact impl_ValidTree.mono _ _)
   | (with_reducible exact impl_nodeImage_put.mono _ _ _ _ _ _ _ _ _)
   | (with_reducible exact LeO.refl _)
   | (with_reducible exact LeO.none _)
   | (with_reducible refine LeO.ite ?_ ?_)
   | (with_reducible refine LeO.bind ?_ (fun _ => ?_))
   | exact ih0 _ _ _ _
   | exact impl_ValidTree.mono _ _
   | exact impl_nodeImage_put.mono _ _ _ _ _ _ _ _ _
   | exact LeO.none _
   | refine LeO.ite ?_ ?_
   | refine LeO.bind ?_ (fun _ => ?_)
set_option maxHeartbeats 8000000 in
set_option maxRecDepth 100000 in
theorem impl_EncodeTree.calls (k : Nat) (A0_0 : Option Addr) (c0_0 : Nat) (l0_0 : List (S92)) (r : List Int) (w : World) (hr0_0 : Kd.C k92 w A0_0 l0_0.length l0_0) (hc0_0 : l0_0.length ≤ c0_0) (h : impl_EncodeTree.f k l0_0 = some r) (hGMAX_ : Go.Proofs.YtjoafknckmoojaaDoorH.GFMAX w) :
  Calls Tryd.prog 40 #[.agg #[.slice A0_0 l0_0.length c0_0]] w fun e w' => ∃ v0_ : Value, e = .returned (v0_) ∧ Kd.R (Kd.int .u8) 5 w' w.heap.size (fun _ => True) v0_ r ∧ Below w.heap.size w w' := by
 have HGMAX_ := Aside0.mk hGMAX_
 clear hGMAX_
 have hu25 := Tryd.underlying25
 have hu92 := Tryd.underlying92
 have hu100 := Tryd.underlying100
 have HR0_0 := Aside0.mk hr0_0
 have HC0_0 := Aside0.mk hc0_0
 clear hr0_0 hc0_0
 have HB := Aside0.mk (Below.refl w.heap.size w)
 have H : ((impl_ValidTree.f k l0_0).bind fun t336 => (if t336 = true then (impl_EncodeTree.l0 k ([] : List Int) l0_0 (l0_0.length : Int) 0) else (some ([] : List Int)))) = some r := h
 clear h
 replace H := Option.bind_eq_some_iff.mp H
 obtain ⟨t336, A20, H⟩ := H
 replace H : (if t336 = true then (impl_EncodeTree.l0 k ([] : List Int) l0_0 (l0_0.length : Int) 0) else (some ([] : List Int))) = some r := H
 have A2 := Aside0.mk A20
 clear A20
 by_cases c3 : t336 = true
 ·subst c3
  have H1 : (impl_EncodeTree.l0 k ([] : List Int) l0_0 (l0_0.length : Int) 0) = some r := by rw [if_pos rfl] at H; exact H
  clear H
  have H := H1
  clear H1
  have H' := Aside0.mk H
  clear H
  go_enter Tryd.func40, Tryd.ntmps40
  go_wp2_with (first | ((with_reducible refine zr (N := 1) rfl ?_); refine zu ?hg (N := 1) ?hd (cs := #[.slice A0_0 l0_0.length c0_0]) (t := 25) ?hr ?_; (case hd => rfl); (case hg => rfl); (case hr => first | (go_simp; done) | (go_simp; rfl)); intro zD hg w4 hbox hb; have n0_ := Aside0.mk (zm (by repeat (first | (with_reducible first | exact HB.out | apply zd | apply zb | apply zc) | exact HB.out)) hb); have n1_ := Aside0.mk (hbox); have n2_ := Aside0.mk ((by rw [hg]; exact (zk (by repeat (first | (with_reducible first | exact HB.out | apply zd | apply zb | apply zc) | exact HB.out))) : w.heap.size ≤ zD)); have n3_ := Aside0.mk ((by rw [hg]; exact (zk (by repeat (first | (with_reducible first | exact HB.out | apply zd | apply zb | apply zc) | exact HB.out))) : w.heap.size ≤ zD)); clear HB; have HB := n0_; have zC := n1_; have GW335 := n2_; have zF := n3_; clear n0_ n1_ n2_ n3_; clear hb hbox hg; have zJ : w4.cell? ⟨zD, 0, none⟩ = some (.slice A0_0 l0_0.length c0_0) := (ze zC.out 0).trans rfl; have zK := zg zC.out 0) | ((with_reducible refine zn (f := 42) rfl ?_); refine zx (some 7) rfl rfl Tryd.func42 (by kernel_rfl) rfl #[.agg #[.slice A0_0 l0_0.length c0_0]] rfl (by (try simp only [List.map_toArray, List.map_cons, List.map_nil]); first | done | rfl | (simp only [List.length_drop, List.length_take]; rfl)) ?_; (with_reducible refine (impl_ValidTree.calls k _ _ l0_0 true _ ?side1 ?side2 A2.out ?globMAX_).mono ?_); (case globMAX_ => exact Go.Proofs.YtjoafknckmoojaaDoorH.GFMAX.below HGMAX_.out (by repeat (first | (with_reducible first | exact HB.out | exact Below.refl _ _ | apply zd | apply zb | apply zc | refine zh ?_ (Aside0.out (by assumption))) | exact HB.out))); (case side1 => repeat (first | exact (Kd.C_below HR0_0.out HB.out) | (with_reducible refine Kd.C_alloc ?_ _) | (with_reducible refine Kd.C_drewN ?_ _) | (with_reducible refine Kd.C_drew ?_))); (case side2 => exact HC0_0.out); rintro e w6 ⟨rfl, hb⟩; refine ⟨_, rfl, ?_⟩; have n0_ := Aside0.mk (zo (g := zD) (o := .cells #[.slice A0_0 l0_0.length c0_0] 25 (0, 0)) (by (with_reducible repeat (first | refine zj ?_ _ | refine zl ?_ | refine zi ?_ _)); exact zC.out) hb); have n1_ := Aside0.mk (zm (by repeat (first | (with_reducible first | exact HB.out | apply zd | apply zb | apply zc | refine zh ?_ zF.out) | exact HB.out)) hb); clear zC; clear HB; have zC := n0_; have HB := n1_; clear n0_ n1_; (try clear hb); (try clear hb2); (try clear hk); (try clear hi); have zL : w6.cell? ⟨zD, 0, none⟩ = some (.slice A0_0 l0_0.length c0_0) := (ze zC.out 0).trans rfl; have zM := zg zC.out 0))
  go_loopg [3, 12] k (fun kq v3 v12 w' => ∃ (x3_1 : List Int) (x12_1 : Int), v12 = .int .i64 x12_1 ∧ Aside0 (impl_EncodeTree.l0 kq x3_1 l0_0 (l0_0.length : Int) x12_1 = some r) ∧ Aside0 (kq ≤ k) ∧ Aside0 (Kd.R (Kd.int .u8) 5 w' w.heap.size (fun _ => True) v3 x3_1) ∧ Aside0 (w'.heap[zD]? = some (.cells #[(.slice A0_0 l0_0.length c0_0)] 25 (0, 0))) ∧ Aside0 (Below w.heap.size w w'))
  case atStart => exact ⟨(([] : List Int)), (0), (by first | rfl | (simp; done) | (simp [*]; done)), H', ⟨Nat.le_refl _⟩, ⟨by first | exact Kd.R_nil _ _ _ _ _ | exact Kd.N_nil _ _ _ _ _ | exact Kd.V_nil _ _ _ _ _ | exact Kd.Q_nil _ _ _ _ _ | exact Kd.S_nil _ _ _ _ _⟩, ⟨by (with_reducible repeat (first | refine zj ?_ _ | refine zl ?_ | refine zi ?_ _)); exact zC.out⟩, ⟨by repeat (first | (with_reducible first | exact HB.out | apply zd | apply zb | apply zc | refine zh ?_ zF.out) | exact HB.out)⟩⟩
  case round =>
   clear H'
   try clear p2
   try clear c3
   try clear c4
   try clear zJ
   try clear zL
   try clear zK
   try clear zM
   obtain ⟨x3_1, x12_1, rfl, HA, HK1, zG, zC, HB⟩ := hrel
   cases gk with
   | zero => exact absurd HA.out (by simp [impl_EncodeTree.l0])
   | succ k1 =>
    have H := HA.out
    clear HA
    simp only [impl_EncodeTree.l0] at H
    by_cases c8 : x12_1 < (l0_0.length : Int)
    ·rw [if_pos c8] at H
     have c8b0 : decide (x12_1 < (l0_0.length : Int)) = true := decide_eq_true c8
     clear c8
     by_cases c9 : 0 ≤ x12_1
     ·rw [if_pos c9] at H
      have c9b0 : decide (0 ≤ x12_1) = true := decide_eq_true c9
      clear c9
      by_cases c10 : x12_1 < (l0_0.length : Int)
      ·rw [if_pos c10] at H
       have c10b0 : decide (x12_1 < (l0_0.length : Int)) = true := decide_eq_true c10
       clear c10
       replace H := Option.bind_eq_some_iff.mp H
       obtain ⟨t339, A110, H⟩ := H
       replace H : (impl_EncodeTree.l0 k1 t339 l0_0 (l0_0.length : Int) (wrap64 (x12_1 + 1))) = some r := H
       have A11 := Aside0.mk A110
       clear A110
       have H' := Aside0.mk H
       clear H
       have p337 : 0 ≤ (x12_1 : Int) := of_decide_eq_true (by first | (with_reducible assumption) | assumption)
       have q337 : x12_1 < (l0_0.length : Int) := of_decide_eq_true (by first | (with_reducible assumption) | assumption)
       obtain ⟨ad337, e337, hx337_0, hx337_1, hx337_2, hx337_3, hx337_4, hx337_5, hx337_6⟩ := at_T92 HR0_0.out x12_1 p337 q337
       cases e337
       replace hx337_0 := zf HB.out hx337_0
       replace hx337_1 := zf HB.out hx337_1
       replace hx337_2 := zf HB.out hx337_2
       replace hx337_3 := zf HB.out hx337_3
       replace hx337_4 := zf HB.out hx337_4
       replace hx337_5 := zf HB.out hx337_5
       replace hx337_6 := zf HB.out hx337_6
       replace p337 := eq_true p337
       replace q337 := eq_true q337
       go_wp2_with (first | ((with_reducible refine zr (N := 5) rfl ?_); refine zu ?hg (N := 5) ?hd (cs := #[.string (⟨#[]⟩ : ByteArray), .string (⟨#[]⟩ : ByteArray), .int .i64 0, .int .i64 0, .int .i64 0, .int .i64 0, .int .i64 0]) (t := 92) ?hr ?_; (case hd => rfl); (case hg => rfl); (case hr => first | (go_simp; done) | (go_simp; rfl)); intro zB hg w12 hbox hb; have n0_ := Aside0.mk (Kd.R_below (by (with_reducible repeat (first | apply Kd.R_alloc | apply Kd.R_drewN | apply Kd.R_drew)); exact zG.out) hb); have n1_ := Aside0.mk (zo (g := zD) (o := .cells #[.slice (some ad337) l0_0.length c0_0] 25 (0, 0)) (by (with_reducible repeat (first | refine zj ?_ _ | refine zl ?_ | refine zi ?_ _)); exact zC.out) hb); have n2_ := Aside0.mk (zm (by repeat (first | (with_reducible first | exact HB.out | apply zd | apply zb | apply zc | refine zh ?_ zF.out) | exact HB.out)) hb); have n3_ := Aside0.mk (hbox); have n4_ := Aside0.mk ((by rw [hg]; exact (zk (by repeat (first | (with_reducible first | exact HB.out | apply zd | apply zb | apply zc | refine zh ?_ zF.out) | exact HB.out))) : w.heap.size ≤ zB)); have n5_ := Aside0.mk ((by rw [hg]; exact (zk (by repeat (first | (with_reducible first | exact HB.out | apply zd | apply zb | apply zc | refine zh ?_ zF.out) | exact HB.out))) : w.heap.size ≤ zB)); have n6_ := Aside0.mk ((by rw [hg]; exact Nat.ne_of_lt (zw (g := zD) (o := .cells #[.slice (some ad337) l0_0.length c0_0] 25 (0, 0)) (by (with_reducible repeat (first | refine zj ?_ _ | refine zl ?_ | refine zi ?_ _)); exact zC.out)) : zD ≠ zB)); have n7_ := Aside0.mk ((by rw [hg]; exact Nat.ne_of_gt (zw (g := zD) (o := .cells #[.slice (some ad337) l0_0.length c0_0] 25 (0, 0)) (by (with_reducible repeat (first | refine zj ?_ _ | refine zl ?_ | refine zi ?_ _)); exact zC.out)) : zB ≠ zD)); clear zG; clear zC; clear HB; have zG := n0_; have zC := n1_; have HB := n2_; have zA := n3_; have GW338 := n4_; have zH := n5_; have zE := n6_; have zI := n7_; clear n0_ n1_ n2_ n3_ n4_ n5_ n6_ n7_; clear hb hbox hg; have ztb := zI.out; have zub := zE.out; have zP : w12.cell? ⟨zB, 0, none⟩ = some (.string (⟨#[]⟩ : ByteArray)) := (ze zA.out 0).trans rfl; have zQ : w12.cell? ⟨zB, 1, none⟩ = some (.string (⟨#[]⟩ : ByteArray)) := (ze zA.out 1).trans rfl; have zR : w12.cell? ⟨zB, 2, none⟩ = some (.int .i64 0) := (ze zA.out 2).trans rfl; have zS : w12.cell? ⟨zB, 3, none⟩ = some (.int .i64 0) := (ze zA.out 3).trans rfl; have zT : w12.cell? ⟨zB, 4, none⟩ = some (.int .i64 0) := (ze zA.out 4).trans rfl; have zU : w12.cell? ⟨zB, 5, none⟩ = some (.int .i64 0) := (ze zA.out 5).trans rfl; have zV : w12.cell? ⟨zB, 6, none⟩ = some (.int .i64 0) := (ze zA.out 6).trans rfl; have zW := zg zA.out 0; have zX := zg zA.out 1; have zY := zg zA.out 2; have zZ := zg zA.out 3; have zab := zg zA.out 4; have zbb := zg zA.out 5; have zcb := zg zA.out 6) | ((with_reducible refine gate_store (t := 92) (p := 5) rfl ?_); refine store_event (t := 92) (p := 5) (v := ?vo_w15) (w1 := (((((((w12.setCell ⟨zB, 0, none⟩ (.string ((rd_T92 l0_0 x12_1).f0))).setCell ⟨zB, 1, none⟩ (.string ((rd_T92 l0_0 x12_1).f1))).setCell ⟨zB, 2, none⟩ (.int .i64 ((rd_T92 l0_0 x12_1).f2))).setCell ⟨zB, 3, none⟩ (.int .i64 ((rd_T92 l0_0 x12_1).f3))).setCell ⟨zB, 4, none⟩ (.int .i64 ((rd_T92 l0_0 x12_1).f4))).setCell ⟨zB, 5, none⟩ (.int .i64 ((rd_T92 l0_0 x12_1).f5))).setCell ⟨zB, 6, none⟩ (.int .i64 ((rd_T92 l0_0 x12_1).f6)))) ?hg ?ho ?hn ?hr ?_; (case ho => rfl); (case hg => rfl); (case hn => rfl); (case hr => first | (go_simp; done) | (go_simp; rfl)); intro w15 hw; have n0_ : Aside0 (Kd.R (Kd.int .u8) 5 w15 w.heap.size (fun _ => True) u3 x3_1) := ⟨(by rw [hw]; exact (by (with_reducible repeat (first | apply Kd.R_alloc | apply Kd.R_drewN | apply Kd.R_drew)); exact Kd.R_mono (Kd.R_far (p := ⟨zB, 6, none⟩) (Kd.R_far (p := ⟨zB, 5, none⟩) (Kd.R_far (p := ⟨zB, 4, none⟩) (Kd.R_far (p := ⟨zB, 3, none⟩) (Kd.R_far (p := ⟨zB, 2, none⟩) (Kd.R_far (p := ⟨zB, 1, none⟩) (Kd.R_far (p := ⟨zB, 0, none⟩) (Kd.R_types zG.out zA.out (by decide)) (fun _ hk => hk.2) (.string ((rd_T92 l0_0 x12_1).f0))) (fun _ hk => hk.2) (.string ((rd_T92 l0_0 x12_1).f1))) (fun _ hk => hk.2) (.int .i64 ((rd_T92 l0_0 x12_1).f2))) (fun _ hk => hk.2) (.int .i64 ((rd_T92 l0_0 x12_1).f3))) (fun _ hk => hk.2) (.int .i64 ((rd_T92 l0_0 x12_1).f4))) (fun _ hk => hk.2) (.int .i64 ((rd_T92 l0_0 x12_1).f5))) (fun _ hk => hk.2) (.int .i64 ((rd_T92 l0_0 x12_1).f6))) (fun _ hk => trivial)))⟩; have n1_ : Aside0 (w15.heap[zD]? = some (.cells #[.slice (some ad337) l0_0.length c0_0] 25 (0, 0))) := ⟨(by rw [hw]; exact (by (with_reducible repeat (first | refine zj ?_ _ | refine zl ?_ | refine zi ?_ _)); refine blk_far ?_ zE.out _; (with_reducible repeat (first | refine zj ?_ _ | refine zl ?_ | refine zi ?_ _)); refine blk_far ?_ zE.out _; (with_reducible repeat (first | refine zj ?_ _ | refine zl ?_ | refine zi ?_ _)); refine blk_far ?_ zE.out _; (with_reducible repeat (first | refine zj ?_ _ | refine zl ?_ | refine zi ?_ _)); refine blk_far ?_ zE.out _; (with_reducible repeat (first | refine zj ?_ _ | refine zl ?_ | refine zi ?_ _)); refine blk_far ?_ zE.out _; (with_reducible repeat (first | refine zj ?_ _ | refine zl ?_ | refine zi ?_ _)); refine blk_far ?_ zE.out _; (with_reducible repeat (first | refine zj ?_ _ | refine zl ?_ | refine zi ?_ _)); refine blk_far ?_ zE.out _; (with_reducible repeat (first | refine zj ?_ _ | refine zl ?_ | refine zi ?_ _)); exact zC.out))⟩; have n2_ : Aside0 (w15.heap[zB]? = some (.cells #[.string ((rd_T92 l0_0 x12_1).f0), .string ((rd_T92 l0_0 x12_1).f1), .int .i64 ((rd_T92 l0_0 x12_1).f2), .int .i64 ((rd_T92 l0_0 x12_1).f3), .int .i64 ((rd_T92 l0_0 x12_1).f4), .int .i64 ((rd_T92 l0_0 x12_1).f5), .int .i64 ((rd_T92 l0_0 x12_1).f6)] 92 (0, 0))) := ⟨(by rw [hw]; exact (by (with_reducible repeat (first | refine zj ?_ _ | refine zl ?_ | refine zi ?_ _)); refine zy (cs := #[.string ((rd_T92 l0_0 x12_1).f0), .string ((rd_T92 l0_0 x12_1).f1), .int .i64 ((rd_T92 l0_0 x12_1).f2), .int .i64 ((rd_T92 l0_0 x12_1).f3), .int .i64 ((rd_T92 l0_0 x12_1).f4), .int .i64 ((rd_T92 l0_0 x12_1).f5), .int .i64 0]) ?_ 6 _ rfl; (with_reducible repeat (first | refine zj ?_ _ | refine zl ?_ | refine zi ?_ _)); refine zy (cs := #[.string ((rd_T92 l0_0 x12_1).f0), .string ((rd_T92 l0_0 x12_1).f1), .int .i64 ((rd_T92 l0_0 x12_1).f2), .int .i64 ((rd_T92 l0_0 x12_1).f3), .int .i64 ((rd_T92 l0_0 x12_1).f4), .int .i64 0, .int .i64 0]) ?_ 5 _ rfl; (with_reducible repeat (first | refine zj ?_ _ | refine zl ?_ | refine zi ?_ _)); refine zy (cs := #[.string ((rd_T92 l0_0 x12_1).f0), .string ((rd_T92 l0_0 x12_1).f1), .int .i64 ((rd_T92 l0_0 x12_1).f2), .int .i64 ((rd_T92 l0_0 x12_1).f3), .int .i64 0, .int .i64 0, .int .i64 0]) ?_ 4 _ rfl; (with_reducible repeat (first | refine zj ?_ _ | refine zl ?_ | refine zi ?_ _)); refine zy (cs := #[.string ((rd_T92 l0_0 x12_1).f0), .string ((rd_T92 l0_0 x12_1).f1), .int .i64 ((rd_T92 l0_0 x12_1).f2), .int .i64 0, .int .i64 0, .int .i64 0, .int .i64 0]) ?_ 3 _ rfl; (with_reducible repeat (first | refine zj ?_ _ | refine zl ?_ | refine zi ?_ _)); refine zy (cs := #[.string ((rd_T92 l0_0 x12_1).f0), .string ((rd_T92 l0_0 x12_1).f1), .int .i64 0, .int .i64 0, .int .i64 0, .int .i64 0, .int .i64 0]) ?_ 2 _ rfl; (with_reducible repeat (first | refine zj ?_ _ | refine zl ?_ | refine zi ?_ _)); refine zy (cs := #[.string ((rd_T92 l0_0 x12_1).f0), .string (⟨#[]⟩ : ByteArray), .int .i64 0, .int .i64 0, .int .i64 0, .int .i64 0, .int .i64 0]) ?_ 1 _ rfl; (with_reducible repeat (first | refine zj ?_ _ | refine zl ?_ | refine zi ?_ _)); refine zy (cs := #[.string (⟨#[]⟩ : ByteArray), .string (⟨#[]⟩ : ByteArray), .int .i64 0, .int .i64 0, .int .i64 0, .int .i64 0, .int .i64 0]) ?_ 0 _ rfl; (with_reducible repeat (first | refine zj ?_ _ | refine zl ?_ | refine zi ?_ _)); exact zA.out))⟩; have n3_ : Aside0 (Below w.heap.size w w15) := ⟨(by rw [hw]; exact (by repeat (first | (with_reducible first | exact HB.out | apply zd | apply zb | apply zc | refine zh ?_ zF.out | refine zh ?_ zH.out) | exact HB.out)))⟩; clear hw; clear zG; clear zC; clear zA; clear HB; have zG := n0_; have zC := n1_; have zA := n2_; have HB := n3_; clear n0_ n1_ n2_ n3_; have zdb : w15.cell? ⟨zB, 0, none⟩ = some (.string ((rd_T92 l0_0 x12_1).f0)) := (ze zA.out 0).trans rfl; have zeb : w15.cell? ⟨zB, 1, none⟩ = some (.string ((rd_T92 l0_0 x12_1).f1)) := (ze zA.out 1).trans rfl; have zfb : w15.cell? ⟨zB, 2, none⟩ = some (.int .i64 ((rd_T92 l0_0 x12_1).f2)) := (ze zA.out 2).trans rfl; have zgb : w15.cell? ⟨zB, 3, none⟩ = some (.int .i64 ((rd_T92 l0_0 x12_1).f3)) := (ze zA.out 3).trans rfl; have zhb : w15.cell? ⟨zB, 4, none⟩ = some (.int .i64 ((rd_T92 l0_0 x12_1).f4)) := (ze zA.out 4).trans rfl; have zib : w15.cell? ⟨zB, 5, none⟩ = some (.int .i64 ((rd_T92 l0_0 x12_1).f5)) := (ze zA.out 5).trans rfl; have zjb : w15.cell? ⟨zB, 6, none⟩ = some (.int .i64 ((rd_T92 l0_0 x12_1).f6)) := (ze zA.out 6).trans rfl; have zkb := zg zA.out 0; have zlb := zg zA.out 1; have zmb := zg zA.out 2; have znb := zg zA.out 3; have zob := zg zA.out 4; have zpb := zg zA.out 5; have zqb := zg zA.out 6; obtain ⟨Ao17, co17, eo17⟩ := Kd.R_slice zG.out; subst eo17) | ((with_reducible refine zn (f := 104) rfl ?_); refine zx (some 19) rfl rfl Tryd.func104 (by kernel_rfl) rfl #[.agg #[.string ((rd_T92 l0_0 x12_1).f0), .string ((rd_T92 l0_0 x12_1).f1), .int .i64 ((rd_T92 l0_0 x12_1).f2), .int .i64 ((rd_T92 l0_0 x12_1).f3), .int .i64 ((rd_T92 l0_0 x12_1).f4), .int .i64 ((rd_T92 l0_0 x12_1).f5), .int .i64 ((rd_T92 l0_0 x12_1).f6)], .slice Ao17 x3_1.length co17] rfl (by (try simp only [List.map_toArray, List.map_cons, List.map_nil]); first | done | rfl | (simp only [List.length_drop, List.length_take]; rfl)) ?_; (with_reducible refine (impl_nodeImage_put.calls k1 ((rd_T92 l0_0 x12_1).f0) ((rd_T92 l0_0 x12_1).f1) ((rd_T92 l0_0 x12_1).f2) ((rd_T92 l0_0 x12_1).f3) ((rd_T92 l0_0 x12_1).f4) ((rd_T92 l0_0 x12_1).f5) ((rd_T92 l0_0 x12_1).f6) (fun k_ => some k_ = (.slice Ao17 x3_1.length co17 : Value).ownBlock) (.slice Ao17 x3_1.length co17) x3_1 t339 w _ ?side1 ?side2 A11.out).mono ?_); (case side1 => repeat (first | (with_reducible first | exact HB.out | apply zd | apply zb | apply zc | refine zh ?_ zF.out | refine zh ?_ zH.out) | exact HB.out)); (case side2 => exact Kd.R_tight rfl zG.out); rintro e w18 ⟨v340, rfl, zO, hb, hkp⟩; refine ⟨_, rfl, ?_⟩; have n0_ := Aside0.mk (blk_kept (by (with_reducible repeat (first | refine zj ?_ _ | refine zl ?_ | refine zi ?_ _)); exact zC.out) hkp (fun hs_ => (fun e_ => (Kd.R_ne zG.out zC.out (by decide)) e_) hs_)); have n1_ := Aside0.mk (blk_kept (by (with_reducible repeat (first | refine zj ?_ _ | refine zl ?_ | refine zi ?_ _)); exact zA.out) hkp (fun hs_ => (fun e_ => (Kd.R_ne zG.out zA.out (by decide)) e_) hs_)); have n2_ := Aside0.mk (Kd.R_mono (ok' := fun k_ => True) zO (fun k_ hk_ => trivial)); have n3_ := Aside0.mk (hb); clear zC; clear zA; clear HB; clear zG; have zC := n0_; have zA := n1_; have zN := n2_; have HB := n3_; clear n0_ n1_ n2_ n3_; (try clear hb); (try clear hkp); (try clear zO)))
       go_roundg k1
       case measure => have := HK1.out; omega
       case rel => exact ⟨(t339), (wrap64 (x12_1 + 1)), (by first | rfl | (simp; done) | (simp [*]; done)), H', ⟨by have := HK1.out; omega⟩, ⟨by (with_reducible repeat (first | apply Kd.R_alloc | apply Kd.R_drewN | apply Kd.R_drew)); exact zN.out⟩, ⟨by (with_reducible repeat (first | refine zj ?_ _ | refine zl ?_ | refine zi ?_ _)); exact zC.out⟩, ⟨by repeat (first | (with_reducible first | exact HB.out | apply zd | apply zb | apply zc | refine zh ?_ zF.out | refine zh ?_ zH.out) | exact HB.out)⟩⟩
      ·rw [if_neg c10] at H
       exact absurd H (by simp)
     ·rw [if_neg c9] at H
      exact absurd H (by simp)
    ·rw [if_neg c8] at H
     have c8b0 : decide (x12_1 < (l0_0.length : Int)) = false := decide_eq_false c8
     clear c8
     obtain rfl := Option.some.inj H
     go_wp2
     go_ret
     exact ⟨_, by first | rfl | (simp [errW_none, errW_some] <;> rfl) | (simp [*, errW_none, errW_some] <;> rfl), by (with_reducible repeat (first | apply Kd.R_alloc | apply Kd.R_drewN | apply Kd.R_drew)); exact zG.out, by repeat (first | (with_reducible first | exact HB.out | apply zd | apply zb | apply zc | refine zh ?_ zF.out) | exact HB.out)⟩
 ·replace c3 := Bool.eq_false_iff.mpr c3
  subst c3
  have H1 : (some ([] : List Int)) = some r := by rw [if_neg (show ¬ (false = true) by decide)] at H; exact H
  clear H
  have H := H1
  clear H1
  obtain rfl := Option.some.inj H
  go_enter Tryd.func40, Tryd.ntmps40
  go_wp2_with (first | ((with_reducible refine zr (N := 1) rfl ?_); refine zu ?hg (N := 1) ?hd (cs := #[.slice A0_0 l0_0.length c0_0]) (t := 25) ?hr ?_; (case hd => rfl); (case hg => rfl); (case hr => first | (go_simp; done) | (go_simp; rfl)); intro zD hg w19 hbox hb; have n0_ := Aside0.mk (zm (by repeat (first | (with_reducible first | exact HB.out | apply zd | apply zb | apply zc) | exact HB.out)) hb); have n1_ := Aside0.mk (hbox); have n2_ := Aside0.mk ((by rw [hg]; exact (zk (by repeat (first | (with_reducible first | exact HB.out | apply zd | apply zb | apply zc) | exact HB.out))) : w.heap.size ≤ zD)); have n3_ := Aside0.mk ((by rw [hg]; exact (zk (by repeat (first | (with_reducible first | exact HB.out | apply zd | apply zb | apply zc) | exact HB.out))) : w.heap.size ≤ zD)); clear HB; have HB := n0_; have zC := n1_; have GW335 := n2_; have zF := n3_; clear n0_ n1_ n2_ n3_; clear hb hbox hg; have zrb : w19.cell? ⟨zD, 0, none⟩ = some (.slice A0_0 l0_0.length c0_0) := (ze zC.out 0).trans rfl; have zsb := zg zC.out 0) | ((with_reducible refine zn (f := 42) rfl ?_); refine zx (some 7) rfl rfl Tryd.func42 (by kernel_rfl) rfl #[.agg #[.slice A0_0 l0_0.length c0_0]] rfl (by (try simp only [List.map_toArray, List.map_cons, List.map_nil]); first | done | rfl | (simp only [List.length_drop, List.length_take]; rfl)) ?_; (with_reducible refine (impl_ValidTree.calls k _ _ l0_0 false _ ?side1 ?side2 A2.out ?globMAX_).mono ?_); (case globMAX_ => exact Go.Proofs.YtjoafknckmoojaaDoorH.GFMAX.below HGMAX_.out (by repeat (first | (with_reducible first | exact HB.out | exact Below.refl _ _ | apply zd | apply zb | apply zc | refine zh ?_ (Aside0.out (by assumption))) | exact HB.out))); (case side1 => repeat (first | exact (Kd.C_below HR0_0.out HB.out) | (with_reducible refine Kd.C_alloc ?_ _) | (with_reducible refine Kd.C_drewN ?_ _) | (with_reducible refine Kd.C_drew ?_))); (case side2 => exact HC0_0.out); rintro e w21 ⟨rfl, hb⟩; refine ⟨_, rfl, ?_⟩; have n0_ := Aside0.mk (zo (g := zD) (o := .cells #[.slice A0_0 l0_0.length c0_0] 25 (0, 0)) (by (with_reducible repeat (first | refine zj ?_ _ | refine zl ?_ | refine zi ?_ _)); exact zC.out) hb); have n1_ := Aside0.mk (zm (by repeat (first | (with_reducible first | exact HB.out | apply zd | apply zb | apply zc | refine zh ?_ zF.out) | exact HB.out)) hb); clear zC; clear HB; have zC := n0_; have HB := n1_; clear n0_ n1_; (try clear hb); (try clear hb2); (try clear hk); (try clear hi)))
  go_ret
  exact ⟨_, by first | rfl | (simp [errW_none, errW_some] <;> rfl) | (simp [*, errW_none, errW_some] <;> rfl), by first | exact Kd.R_nil _ _ _ _ _ | exact Kd.N_nil _ _ _ _ _ | exact Kd.V_nil _ _ _ _ _ | exact Kd.Q_nil _ _ _ _ _ | exact Kd.S_nil _ _ _ _ _, by repeat (first | (with_reducible first | exact HB.out | apply zd | apply zb | apply zc | refine zh ?_ zF.out) | exact HB.out)⟩

def impl_NewTree.f  : Option ((List (S92))) := some (([(⟨(⟨#[47]⟩ : ByteArray), (⟨#[]⟩ : ByteArray), 0, 0, 0, 0, 0⟩ : S92)] : List (S92)))
set_option maxHeartbeats 8000000 in
set_option maxRecDepth 100000 in
theorem impl_NewTree.calls  (r : List (S92)) (w : World) (h : impl_NewTree.f  = some r) :
  Calls Tryd.prog 46 #[] w fun e w' => ∃ v0_ : Value, e = .returned (.agg #[v0_]) ∧ Kd.R k92 92 w' w.heap.size (fun _ => True) v0_ r ∧ Below w.heap.size w w' := by
 have hu25 := Tryd.underlying25
 have hu92 := Tryd.underlying92
 have HB := Aside0.mk (Below.refl w.heap.size w)
 have H : (some (([(⟨(⟨#[47]⟩ : ByteArray), (⟨#[]⟩ : ByteArray), 0, 0, 0, 0, 0⟩ : S92)] : List (S92)))) = some r := h
 clear h
 obtain ⟨y343, hy343⟩ : ∃ y_ : List (S92), y_ = (([(⟨(⟨#[47]⟩ : ByteArray), (⟨#[]⟩ : ByteArray), 0, 0, 0, 0, 0⟩ : S92)] : List (S92))) := ⟨_, rfl⟩
 replace H : (some y343) = some r := by first | (rw [hy343]; with_reducible exact H) | (have H2_ := (Option.bind_some _ _).symm.trans H; rw [hy343]; with_reducible exact H2_) | (have H2_ := (Option.bind_some _ _).symm.trans H; with_reducible exact H2_) | with_reducible exact H | (rw [hy343]; exact H) | exact H
 have Ny343 := Aside0.mk hy343
 clear hy343
 obtain rfl := Option.some.inj H
 go_enter Tryd.func46, Tryd.ntmps46
 go_wp2_with (first | ((with_reducible refine zr (N := 0) rfl ?_); refine zu ?hg (N := 0) ?hd (cs := #[.slice none 0 0]) (t := 25) ?hr ?_; (case hd => rfl); (case hg => rfl); (case hr => first | (go_simp; done) | (go_simp; rfl)); intro zB hg w1 hbox hb; have n0_ := Aside0.mk (zm (by repeat (first | (with_reducible first | exact HB.out | apply zd | apply zb | apply zc) | exact HB.out)) hb); have n1_ := Aside0.mk (hbox); have n2_ := Aside0.mk ((by rw [hg]; exact (zk (by repeat (first | (with_reducible first | exact HB.out | apply zd | apply zb | apply zc) | exact HB.out))) : w.heap.size ≤ zB)); have n3_ := Aside0.mk ((by rw [hg]; exact (zk (by repeat (first | (with_reducible first | exact HB.out | apply zd | apply zb | apply zc) | exact HB.out))) : w.heap.size ≤ zB)); clear HB; have HB := n0_; have zA := n1_; have GW342 := n2_; have zC := n3_; clear n0_ n1_ n2_ n3_; clear hb hbox hg) | ((with_reducible refine zr (N := 2) rfl ?_); refine Kd.R_lit k92 _ 92 ?hg (N := 2) ?hd (xs := ([(⟨(⟨#[47]⟩ : ByteArray), (⟨#[]⟩ : ByteArray), 0, 0, 0, 0, 0⟩ : S92)] : List (S92))) (inner := [.string (⟨#[47]⟩ : ByteArray), .string (⟨#[]⟩ : ByteArray), .int .i64 0, .int .i64 0, .int .i64 0, .int .i64 0, .int .i64 0]) (ok := fun _ => True) (okp := fun _ => True) ?hr ?hp (fun _ hk => hk) trivial (Below.refl _ _) (Nat.le_refl _) (by simp) ?_; (case hd => rfl); (case hg => rfl); (case hr => first | (go_simp; done) | (go_simp; rfl)); (case hp => exact (Reps.c7 (show Kd.M k92 _ _ _ (⟨(⟨#[47]⟩ : ByteArray), (⟨#[]⟩ : ByteArray), 0, 0, 0, 0, 0⟩ : S92) [.string (⟨#[47]⟩ : ByteArray), .string (⟨#[]⟩ : ByteArray), .int .i64 0, .int .i64 0, .int .i64 0, .int .i64 0, .int .i64 0] from (k92_mkM _ _ _ (⟨(⟨#[47]⟩ : ByteArray), (⟨#[]⟩ : ByteArray), 0, 0, 0, 0, 0⟩ : S92) )) (Reps.none _ _))); intro v344 w2 zD hb hg_ hnew_; clear hg_ hnew_; (first | rw [← Ny343.out] at zD | (simp only [Int.reduceToNat] at zD; rw [← Ny343.out] at zD)); have n0_ := Aside0.mk (Kd.R_lower zD (zk (by repeat (first | (with_reducible first | exact HB.out | apply zd | apply zb | apply zc | refine zh ?_ zC.out) | exact HB.out)))); have n1_ := Aside0.mk (zo (g := zB) (o := .cells #[.slice none 0 0] 25 (0, 0)) (by (with_reducible repeat (first | refine zj ?_ _ | refine zl ?_ | refine zi ?_ _)); exact zA.out) hb); have n2_ := Aside0.mk (zm (by repeat (first | (with_reducible first | exact HB.out | apply zd | apply zb | apply zc | refine zh ?_ zC.out) | exact HB.out)) hb); clear zA; clear HB; have zE := n0_; have zA := n1_; have HB := n2_; clear n0_ n1_ n2_; clear hb zD; obtain ⟨Ao4, co4, eo4⟩ := Kd.R_slice zE.out; subst eo4; have zF : w2.cell? ⟨zB, 0, none⟩ = some (.slice none 0 0) := (ze zA.out 0).trans rfl; have zG := zg zA.out 0))
 refine bodyPost_ret (results_cell_row rfl _ _ zB 25 #[.slice Ao4 y343.length co4] (0, 0) _ rfl (by (with_reducible repeat (first | refine zj ?_ _ | refine zl ?_ | refine zi ?_ _)); refine zy (cs := #[.slice none 0 0]) ?_ 0 _ rfl; (with_reducible repeat (first | refine zj ?_ _ | refine zl ?_ | refine zi ?_ _)); exact zA.out) Tryd.underlying25 rfl (by kernel_rfl)) rfl ?_
 exact ⟨_, by first | rfl | (simp [errW_none, errW_some] <;> rfl) | (simp [*, errW_none, errW_some] <;> rfl), by (with_reducible repeat (first | apply Kd.R_alloc | apply Kd.R_drewN | apply Kd.R_drew)); exact Kd.R_mono (Kd.R_far (p := ⟨zB, 0, none⟩) (Kd.R_types zE.out zA.out (by decide)) (fun _ hk => hk.2) (.slice Ao4 y343.length co4)) (fun _ hk => trivial), by repeat (first | (with_reducible first | exact HB.out | apply zd | apply zb | apply zc | refine zh ?_ zC.out) | exact HB.out)⟩

end Go.Proofs.YtjoafknckmoojaaDoor.GFnExactFormatDisk
