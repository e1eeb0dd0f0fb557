/- Written by give.py, a program of this session, that runs the kit's print and lays contracts proved by hand beside it. -/
import Derived.Test.YtjoafknckmoojaaDoorGFnExactDecodeTreex0
import Derived.Test.YtjoafknckmoojaaDoorGFnExactDecodeTreex5
import Derived.Test.YtjoafknckmoojaaDoorGFnExactDecodeTreex9
import Derived.Test.YtjoafknckmoojaaDoorGFnExactDecodeTreex10
import Derived.Test.YtjoafknckmoojaaDoorGFnExactDecodeTreex11
import Derived.Test.YtjoafknckmoojaaDoorGFnExactDecodeTreex12
namespace Go.Proofs.YtjoafknckmoojaaDoor.GFnExactDecodeTree
open Go.RowKit Go.Proofs.YtjoafknckmoojaaDoorW.PrintWords Go.Proofs.YtjoafknckmoojaaDoorW.PrintLast Go.Proofs.YtjoafknckmoojaaDoorW.PrintMore
attribute [local go_sem] max2_int min2_int max_two min_two max_three min_three max_four min_four
attribute [local go_sem high] Go.Proofs.YtjoafknckmoojaaDoorH.str_leq Go.Proofs.YtjoafknckmoojaaDoorH.str_geq Go.Proofs.YtjoafknckmoojaaDoorH.str_gtr
set_option linter.unusedVariables false
set_option linter.unusedSimpArgs false

def laws_heldTree.f (k : Nat) (l0_0 : List (S92)) (a1 : Int) : Option (Int) := (laws_heldNodeS.f k l0_0 a1).bind fun t231 => (if t231 < 0 then (some (-1)) else (some t231))
theorem laws_heldTree.mono : ∀ a0 a1 k, LeO (laws_heldTree.f k a0 a1) (laws_heldTree.f (k + 1) a0 a1) := by
 intro a0 a1 k
 unfold laws_heldTree.f
 repeat' first
   | (with_reducible exact laws_heldNodeS.mono _ _ _)
   | (with_reducible exact LeO.refl _)
   | (with_reducible exact LeO.none _)
   | (with_reducible refine LeO.ite ?_ ?_)
   | (with_reducible refine LeO.bind ?_ (fun _ => ?_))
   | exact laws_heldNodeS.mono _ _ _
   | exact LeO.none _
   | refine LeO.ite ?_ ?_
   | refine LeO.bind ?_ (fun _ => ?_)
set_option maxHeartbeats 8000000 in
set_option maxRecDepth 100000 in
theorem laws_heldTree.calls (k : Nat) (A0_0 : Option Addr) (c0_0 : Nat) (l0_0 : List (S92)) (a1 : Int) (r : Int) (w : World) (hr0_0 : Kd.C k92 w A0_0 l0_0.length l0_0) (hc0_0 : l0_0.length ≤ c0_0) (h : laws_heldTree.f k l0_0 a1 = some r) :
  Calls Tryd.prog 53 #[.agg #[.slice A0_0 l0_0.length c0_0], .int .i64 a1] w fun e w' => e = .returned (.int .i64 r) ∧ Below w.heap.size w w' := by
 have hu25 := Tryd.underlying25
 have HR0_0 := Aside0.mk hr0_0
 have HC0_0 := Aside0.mk hc0_0
 clear hr0_0 hc0_0
 have HB := Aside0.mk (Below.refl w.heap.size w)
 have H : ((laws_heldNodeS.f k l0_0 a1).bind fun t231 => (if t231 < 0 then (some (-1)) else (some t231))) = some r := h
 clear h
 replace H := Option.bind_eq_some_iff.mp H
 obtain ⟨t231, A30, H⟩ := H
 replace H : (if t231 < 0 then (some (-1)) else (some t231)) = some r := H
 have A3 := Aside0.mk A30
 clear A30
 by_cases c4 : t231 < 0
 ·rw [if_pos c4] at H
  have c4b0 : decide (t231 < 0) = true := decide_eq_true c4
  clear c4
  obtain rfl := Option.some.inj H
  go_enter Tryd.func53, Tryd.ntmps53
  go_wp2_with (first | ((with_reducible refine zv (N := 2) rfl ?_); refine zw ?hg (N := 2) ?hd (cs := #[.slice A0_0 l0_0.length c0_0]) (t := 25) ?hr ?_; (case hd => rfl); (case hg => rfl); (case hr => first | (go_simp; done) | (go_simp; rfl)); intro zC hg w5 hbox hb; have n0_ := Aside0.mk (zl (by repeat (first | (with_reducible first | exact HB.out | apply ze | apply zc | apply zd) | exact HB.out)) hb); have n1_ := Aside0.mk (hbox); have n2_ := Aside0.mk ((by rw [hg]; exact (zm (by repeat (first | (with_reducible first | exact HB.out | apply ze | apply zc | apply zd) | exact HB.out))) : w.heap.size ≤ zC)); have n3_ := Aside0.mk ((by rw [hg]; exact (zm (by repeat (first | (with_reducible first | exact HB.out | apply ze | apply zc | apply zd) | exact HB.out))) : w.heap.size ≤ zC)); clear HB; have HB := n0_; have zB := n1_; have GW230 := n2_; have zD := n3_; clear n0_ n1_ n2_ n3_; clear hb hbox hg; have zE : w5.cell? ⟨zC, 0, none⟩ = some (.slice A0_0 l0_0.length c0_0) := (zg zB.out 0).trans rfl; have zF := zf zB.out 0) | ((with_reducible refine zq (f := 119) rfl ?_); refine zz (some 8) rfl rfl Tryd.func119 (by kernel_rfl) rfl #[.slice A0_0 l0_0.length c0_0, .int .i64 a1] rfl (by (try simp only [List.map_toArray, List.map_cons, List.map_nil]); first | done | rfl | (simp only [List.length_drop, List.length_take]; rfl)) ?_; (with_reducible refine (laws_heldNodeS.calls k _ _ l0_0 a1 t231 _ ?side1 ?side2 A3.out).mono ?_); (case side1 => repeat (first | exact (Kd.C_below HR0_0.out HB.out) | (with_reducible refine Kd.C_alloc ?_ _) | (with_reducible refine Kd.C_drewN ?_ _) | (with_reducible refine Kd.C_drew ?_))); (case side2 => exact HC0_0.out); rintro e w7 ⟨rfl, hb⟩; refine ⟨_, rfl, ?_⟩; have n0_ := Aside0.mk (zt (g := zC) (o := .cells #[.slice A0_0 l0_0.length c0_0] 25 (0, 0)) (by (with_reducible repeat (first | refine zi ?_ _ | refine zk ?_ | refine zh ?_ _)); exact zB.out) hb); have n1_ := Aside0.mk (zl (by repeat (first | (with_reducible first | exact HB.out | apply ze | apply zc | apply zd | refine zj ?_ zD.out) | exact HB.out)) hb); clear zB; clear HB; have zB := n0_; have HB := n1_; clear n0_ n1_; (try clear hb); (try clear hb2); (try clear hk); (try clear hi)))
  go_ret
  exact ⟨by first | rfl | (simp [errW_none, errW_some] <;> rfl) | (simp [*, errW_none, errW_some] <;> rfl), by repeat (first | (with_reducible first | exact HB.out | apply ze | apply zc | apply zd | refine zj ?_ zD.out) | exact HB.out)⟩
 ·rw [if_neg c4] at H
  have c4b0 : decide (t231 < 0) = false := decide_eq_false c4
  clear c4
  obtain rfl := Option.some.inj H
  go_enter Tryd.func53, Tryd.ntmps53
  go_wp2_with (first | ((with_reducible refine zv (N := 2) rfl ?_); refine zw ?hg (N := 2) ?hd (cs := #[.slice A0_0 l0_0.length c0_0]) (t := 25) ?hr ?_; (case hd => rfl); (case hg => rfl); (case hr => first | (go_simp; done) | (go_simp; rfl)); intro zC hg w8 hbox hb; have n0_ := Aside0.mk (zl (by repeat (first | (with_reducible first | exact HB.out | apply ze | apply zc | apply zd) | exact HB.out)) hb); have n1_ := Aside0.mk (hbox); have n2_ := Aside0.mk ((by rw [hg]; exact (zm (by repeat (first | (with_reducible first | exact HB.out | apply ze | apply zc | apply zd) | exact HB.out))) : w.heap.size ≤ zC)); have n3_ := Aside0.mk ((by rw [hg]; exact (zm (by repeat (first | (with_reducible first | exact HB.out | apply ze | apply zc | apply zd) | exact HB.out))) : w.heap.size ≤ zC)); clear HB; have HB := n0_; have zB := n1_; have GW230 := n2_; have zD := n3_; clear n0_ n1_ n2_ n3_; clear hb hbox hg; have zG : w8.cell? ⟨zC, 0, none⟩ = some (.slice A0_0 l0_0.length c0_0) := (zg zB.out 0).trans rfl; have zH := zf zB.out 0) | ((with_reducible refine zq (f := 119) rfl ?_); refine zz (some 8) rfl rfl Tryd.func119 (by kernel_rfl) rfl #[.slice A0_0 l0_0.length c0_0, .int .i64 a1] rfl (by (try simp only [List.map_toArray, List.map_cons, List.map_nil]); first | done | rfl | (simp only [List.length_drop, List.length_take]; rfl)) ?_; (with_reducible refine (laws_heldNodeS.calls k _ _ l0_0 a1 t231 _ ?side1 ?side2 A3.out).mono ?_); (case side1 => repeat (first | exact (Kd.C_below HR0_0.out HB.out) | (with_reducible refine Kd.C_alloc ?_ _) | (with_reducible refine Kd.C_drewN ?_ _) | (with_reducible refine Kd.C_drew ?_))); (case side2 => exact HC0_0.out); rintro e w10 ⟨rfl, hb⟩; refine ⟨_, rfl, ?_⟩; have n0_ := Aside0.mk (zt (g := zC) (o := .cells #[.slice A0_0 l0_0.length c0_0] 25 (0, 0)) (by (with_reducible repeat (first | refine zi ?_ _ | refine zk ?_ | refine zh ?_ _)); exact zB.out) hb); have n1_ := Aside0.mk (zl (by repeat (first | (with_reducible first | exact HB.out | apply ze | apply zc | apply zd | refine zj ?_ zD.out) | exact HB.out)) hb); clear zB; clear HB; have zB := n0_; have HB := n1_; clear n0_ n1_; (try clear hb); (try clear hb2); (try clear hk); (try clear hi)))
  go_ret
  exact ⟨by first | rfl | (simp [errW_none, errW_some] <;> rfl) | (simp [*, errW_none, errW_some] <;> rfl), by repeat (first | (with_reducible first | exact HB.out | apply ze | apply zc | apply zd | refine zj ?_ zD.out) | exact HB.out)⟩

def laws_heldTreeResult.f (k : Nat) (a0_0 : Bool) (l0_1 : List (S92)) (a1 : Int) : Option (Int) := (laws_heldTree.f k l0_1 a1).bind fun t233 => (if t233 < 0 then (some (-1)) else (some t233))
theorem laws_heldTreeResult.mono : ∀ a0 a1 a2 k, LeO (laws_heldTreeResult.f k a0 a1 a2) (laws_heldTreeResult.f (k + 1) a0 a1 a2) := by
 intro a0 a1 a2 k
 unfold laws_heldTreeResult.f
 repeat' first
   | (with_reducible exact laws_heldTree.mono _ _ _)
   | (with_reducible exact LeO.refl _)
   | (with_reducible exact LeO.none _)
   | (with_reducible refine LeO.ite ?_ ?_)
   | (with_reducible refine LeO.bind ?_ (fun _ => ?_))
   | exact laws_heldTree.mono _ _ _
   | exact LeO.none _
   | refine LeO.ite ?_ ?_
   | refine LeO.bind ?_ (fun _ => ?_)
set_option maxHeartbeats 8000000 in
set_option maxRecDepth 100000 in
theorem laws_heldTreeResult.calls (k : Nat) (a0_0 : Bool) (A0_1 : Option Addr) (c0_1 : Nat) (l0_1 : List (S92)) (a1 : Int) (r : Int) (w : World) (hr0_1 : Kd.C k92 w A0_1 l0_1.length l0_1) (hc0_1 : l0_1.length ≤ c0_1) (h : laws_heldTreeResult.f k a0_0 l0_1 a1 = some r) :
  Calls Tryd.prog 18 #[.agg #[.bool a0_0, .slice A0_1 l0_1.length c0_1], .int .i64 a1] w fun e w' => e = .returned (.int .i64 r) ∧ Below w.heap.size w w' := by
 have hu27 := Tryd.underlying27
 have hu25 := Tryd.underlying25
 have HR0_1 := Aside0.mk hr0_1
 have HC0_1 := Aside0.mk hc0_1
 clear hr0_1 hc0_1
 have HB := Aside0.mk (Below.refl w.heap.size w)
 have H : ((laws_heldTree.f k l0_1 a1).bind fun t233 => (if t233 < 0 then (some (-1)) else (some t233))) = some r := h
 clear h
 replace H := Option.bind_eq_some_iff.mp H
 obtain ⟨t233, A30, H⟩ := H
 replace H : (if t233 < 0 then (some (-1)) else (some t233)) = some r := H
 have A3 := Aside0.mk A30
 clear A30
 by_cases c4 : t233 < 0
 ·rw [if_pos c4] at H
  have c4b0 : decide (t233 < 0) = true := decide_eq_true c4
  clear c4
  obtain rfl := Option.some.inj H
  go_enter Tryd.func18, Tryd.ntmps18
  go_wp2_with (first | ((with_reducible refine zv (N := 2) rfl ?_); refine zw ?hg (N := 2) ?hd (cs := #[.bool a0_0, .slice A0_1 l0_1.length c0_1]) (t := 27) ?hr ?_; (case hd => rfl); (case hg => rfl); (case hr => first | (go_simp; done) | (go_simp; rfl)); intro zC hg w5 hbox hb; have n0_ := Aside0.mk (zl (by repeat (first | (with_reducible first | exact HB.out | apply ze | apply zc | apply zd) | exact HB.out)) hb); have n1_ := Aside0.mk (hbox); have n2_ := Aside0.mk ((by rw [hg]; exact (zm (by repeat (first | (with_reducible first | exact HB.out | apply ze | apply zc | apply zd) | exact HB.out))) : w.heap.size ≤ zC)); have n3_ := Aside0.mk ((by rw [hg]; exact (zm (by repeat (first | (with_reducible first | exact HB.out | apply ze | apply zc | apply zd) | exact HB.out))) : w.heap.size ≤ zC)); clear HB; have HB := n0_; have zB := n1_; have GW232 := n2_; have zD := n3_; clear n0_ n1_ n2_ n3_; clear hb hbox hg; have zE : w5.cell? ⟨zC, 0, none⟩ = some (.bool a0_0) := (zg zB.out 0).trans rfl; have zF : w5.cell? ⟨zC, 1, none⟩ = some (.slice A0_1 l0_1.length c0_1) := (zg zB.out 1).trans rfl; have zG := zf zB.out 0; have zH := zf zB.out 1) | ((with_reducible refine zq (f := 53) rfl ?_); refine zz (some 8) rfl rfl Tryd.func53 (by kernel_rfl) rfl #[.agg #[.slice A0_1 l0_1.length c0_1], .int .i64 a1] rfl (by (try simp only [List.map_toArray, List.map_cons, List.map_nil]); first | done | rfl | (simp only [List.length_drop, List.length_take]; rfl)) ?_; (with_reducible refine (laws_heldTree.calls k _ _ l0_1 a1 t233 _ ?side1 ?side2 A3.out).mono ?_); (case side1 => repeat (first | exact (Kd.C_below HR0_1.out HB.out) | (with_reducible refine Kd.C_alloc ?_ _) | (with_reducible refine Kd.C_drewN ?_ _) | (with_reducible refine Kd.C_drew ?_))); (case side2 => exact HC0_1.out); rintro e w7 ⟨rfl, hb⟩; refine ⟨_, rfl, ?_⟩; have n0_ := Aside0.mk (zt (g := zC) (o := .cells #[.bool a0_0, .slice A0_1 l0_1.length c0_1] 27 (0, 0)) (by (with_reducible repeat (first | refine zi ?_ _ | refine zk ?_ | refine zh ?_ _)); exact zB.out) hb); have n1_ := Aside0.mk (zl (by repeat (first | (with_reducible first | exact HB.out | apply ze | apply zc | apply zd | refine zj ?_ zD.out) | exact HB.out)) hb); clear zB; clear HB; have zB := n0_; have HB := n1_; clear n0_ n1_; (try clear hb); (try clear hb2); (try clear hk); (try clear hi)))
  go_ret
  exact ⟨by first | rfl | (simp [errW_none, errW_some] <;> rfl) | (simp [*, errW_none, errW_some] <;> rfl), by repeat (first | (with_reducible first | exact HB.out | apply ze | apply zc | apply zd | refine zj ?_ zD.out) | exact HB.out)⟩
 ·rw [if_neg c4] at H
  have c4b0 : decide (t233 < 0) = false := decide_eq_false c4
  clear c4
  obtain rfl := Option.some.inj H
  go_enter Tryd.func18, Tryd.ntmps18
  go_wp2_with (first | ((with_reducible refine zv (N := 2) rfl ?_); refine zw ?hg (N := 2) ?hd (cs := #[.bool a0_0, .slice A0_1 l0_1.length c0_1]) (t := 27) ?hr ?_; (case hd => rfl); (case hg => rfl); (case hr => first | (go_simp; done) | (go_simp; rfl)); intro zC hg w8 hbox hb; have n0_ := Aside0.mk (zl (by repeat (first | (with_reducible first | exact HB.out | apply ze | apply zc | apply zd) | exact HB.out)) hb); have n1_ := Aside0.mk (hbox); have n2_ := Aside0.mk ((by rw [hg]; exact (zm (by repeat (first | (with_reducible first | exact HB.out | apply ze | apply zc | apply zd) | exact HB.out))) : w.heap.size ≤ zC)); have n3_ := Aside0.mk ((by rw [hg]; exact (zm (by repeat (first | (with_reducible first | exact HB.out | apply ze | apply zc | apply zd) | exact HB.out))) : w.heap.size ≤ zC)); clear HB; have HB := n0_; have zB := n1_; have GW232 := n2_; have zD := n3_; clear n0_ n1_ n2_ n3_; clear hb hbox hg; have zI : w8.cell? ⟨zC, 0, none⟩ = some (.bool a0_0) := (zg zB.out 0).trans rfl; have zJ : w8.cell? ⟨zC, 1, none⟩ = some (.slice A0_1 l0_1.length c0_1) := (zg zB.out 1).trans rfl; have zK := zf zB.out 0; have zL := zf zB.out 1) | ((with_reducible refine zq (f := 53) rfl ?_); refine zz (some 8) rfl rfl Tryd.func53 (by kernel_rfl) rfl #[.agg #[.slice A0_1 l0_1.length c0_1], .int .i64 a1] rfl (by (try simp only [List.map_toArray, List.map_cons, List.map_nil]); first | done | rfl | (simp only [List.length_drop, List.length_take]; rfl)) ?_; (with_reducible refine (laws_heldTree.calls k _ _ l0_1 a1 t233 _ ?side1 ?side2 A3.out).mono ?_); (case side1 => repeat (first | exact (Kd.C_below HR0_1.out HB.out) | (with_reducible refine Kd.C_alloc ?_ _) | (with_reducible refine Kd.C_drewN ?_ _) | (with_reducible refine Kd.C_drew ?_))); (case side2 => exact HC0_1.out); rintro e w10 ⟨rfl, hb⟩; refine ⟨_, rfl, ?_⟩; have n0_ := Aside0.mk (zt (g := zC) (o := .cells #[.bool a0_0, .slice A0_1 l0_1.length c0_1] 27 (0, 0)) (by (with_reducible repeat (first | refine zi ?_ _ | refine zk ?_ | refine zh ?_ _)); exact zB.out) hb); have n1_ := Aside0.mk (zl (by repeat (first | (with_reducible first | exact HB.out | apply ze | apply zc | apply zd | refine zj ?_ zD.out) | exact HB.out)) hb); clear zB; clear HB; have zB := n0_; have HB := n1_; clear n0_ n1_; (try clear hb); (try clear hb2); (try clear hk); (try clear hi)))
  go_ret
  exact ⟨by first | rfl | (simp [errW_none, errW_some] <;> rfl) | (simp [*, errW_none, errW_some] <;> rfl), by repeat (first | (with_reducible first | exact HB.out | apply ze | apply zc | apply zd | refine zj ?_ zD.out) | exact HB.out)⟩

def laws_FnExactDecodeTree.j0 : Nat → List Int → Bool → Bool → List (S92) → Bool → List (S92) → Option (Bool)
 | 0, _, _, _, _, _, _ => none
 | k + 1, x0, x39, x242000, x242001, x250000, x250001 => if x39 = true then none else ((laws_markTreeResult.f k x250000 x250001 1).bind fun bt258 => ((laws_heldTreeResult.f k x250000 bt258.2 1).bind fun t260 => (if t260 < 0 then none else (if t260 = bt258.1 then ((laws_toByteS.f k x0).bind fun t261 => ((impl_DecodeTree.f k t261).bind fun bt264 => ((laws_eqTreeResult.f k bt264.1 bt264.2 x242000 x242001).bind fun t269 => (if t269 = true then (some true) else none)))) else none))))
def laws_FnExactDecodeTree.f (k : Nat) (l0 : List Int) : Option (Bool) := if (l0.length : Int) > 1048576 then (some true) else ((laws_toByteS.f k l0).bind fun t234 => ((spec_DecodeTree.f k t234).bind fun bt237 => ((laws_toByteS.f k l0).bind fun t242 => ((impl_DecodeTree.f k t242).bind fun bt245 => ((laws_eqTreeResult.f k bt245.1 bt245.2 bt237.1 bt237.2).bind fun t250 => (if t250 = true then ((laws_toByteS.f k l0).bind fun t251 => ((laws_eqByteS.f k t242 t251).bind fun t254 => (if t254 = true then ((laws_markByteS.f k t242 1).bind fun bt255 => (if bt255.1 < 0 then (laws_FnExactDecodeTree.j0 k l0 true bt237.1 bt237.2 bt245.1 bt245.2) else ((laws_eqTreeResult.f k bt245.1 bt245.2 bt237.1 bt237.2).bind fun t257 => (laws_FnExactDecodeTree.j0 k l0 (!t257) bt237.1 bt237.2 bt245.1 bt245.2)))) else none))) else none))))))
theorem laws_FnExactDecodeTree.mono_l : ∀ k, (∀ y0 y1 y2 y3 y4 y5, LeO (laws_FnExactDecodeTree.j0 k y0 y1 y2 y3 y4 y5) (laws_FnExactDecodeTree.j0 (k + 1) y0 y1 y2 y3 y4 y5))
 | 0 => fun _ _ _ _ _ _ r h => by simp [laws_FnExactDecodeTree.j0] at h
 | k + 1 => by
  have ih0 := laws_FnExactDecodeTree.mono_l k
  ·intro y0 y1 y2 y3 y4 y5
   unfold laws_FnExactDecodeTree.j0
   repeat' first
   | (with_reducible exact ih0 _ _ _ _ _ _)
   | (with_reducible exact impl_DecodeTree.mono _ _)
   | (with_reducible exact laws_eqByteS.mono _ _ _)
   | (with_reducible exact laws_eqTreeResult.mono _ _ _ _ _)
   | (with_reducible exact laws_heldTreeResult.mono _ _ _ _)
   | (with_reducible exact laws_markByteS.mono _ _ _)
   | (with_reducible exact laws_markTreeResult.mono _ _ _ _)
   | (with_reducible exact laws_toByteS.mono _ _)
   | (with_reducible exact spec_DecodeTree.mono _ _)
   | (with_reducible exact LeO.refl _)
   | (with_reducible exact LeO.none _)
   | (with_reducible refine LeO.ite ?_ ?_)
   | (with_reducible refine LeO.bind ?_ (fun _ => ?_))
   | exact ih0 _ _ _ _ _ _
   | exact impl_DecodeTree.mono _ _
   | exact laws_eqByteS.mono _ _ _
   | exact laws_eqTreeResult.mono _ _ _ _ _
   | exact laws_heldTreeResult.mono _ _ _ _
   | exact laws_markByteS.mono _ _ _
   | exact laws_markTreeResult.mono _ _ _ _
   | exact laws_toByteS.mono _ _
   | exact spec_DecodeTree.mono _ _
   | exact LeO.none _
   | refine LeO.ite ?_ ?_
   | refine LeO.bind ?_ (fun _ => ?_)
theorem laws_FnExactDecodeTree.mono : ∀ a0 k, LeO (laws_FnExactDecodeTree.f k a0) (laws_FnExactDecodeTree.f (k + 1) a0) := by
 intro a0 k
 have ih0 := laws_FnExactDecodeTree.mono_l k
 unfold laws_FnExactDecodeTree.f
 repeat' first
   | (with_reducible exact ih0 _ _ _ _ _ _)
   | (with_reducible exact impl_DecodeTree.mono _ _)
   | (with_reducible exact laws_eqByteS.mono _ _ _)
   | (with_reducible exact laws_eqTreeResult.mono _ _ _ _ _)
   | (with_reducible exact laws_heldTreeResult.mono _ _ _ _)
   | (with_reducible exact laws_markByteS.mono _ _ _)
   | (with_reducible exact laws_markTreeResult.mono _ _ _ _)
   | (with_reducible exact laws_toByteS.mono _ _)
   | (with_reducible exact spec_DecodeTree.mono _ _)
   | (with_reducible exact LeO.refl _)
   | (with_reducible exact LeO.none _)
   | (with_reducible refine LeO.ite ?_ ?_)
   | (with_reducible refine LeO.bind ?_ (fun _ => ?_))
   | exact ih0 _ _ _ _ _ _
   | exact impl_DecodeTree.mono _ _
   | exact laws_eqByteS.mono _ _ _
   | exact laws_eqTreeResult.mono _ _ _ _ _
   | exact laws_heldTreeResult.mono _ _ _ _
   | exact laws_markByteS.mono _ _ _
   | exact laws_markTreeResult.mono _ _ _ _
   | exact laws_toByteS.mono _ _
   | exact spec_DecodeTree.mono _ _
   | exact LeO.none _
   | refine LeO.ite ?_ ?_
   | refine LeO.bind ?_ (fun _ => ?_)
set_option maxHeartbeats 8000000 in
set_option maxRecDepth 100000 in
theorem laws_FnExactDecodeTree.calls (k : Nat) (A0 : Option Addr) (c0 : Nat) (l0 : List Int) (r : Bool) (w : World) (hr0 : Kd.C (Kd.int .u8) w A0 l0.length l0) (hc0 : l0.length ≤ c0) (h : laws_FnExactDecodeTree.f k l0 = some r) (hGMAX_ : Go.Proofs.YtjoafknckmoojaaDoorH.GFMAX w) :
  Calls Tryd.prog 3 #[.slice A0 l0.length c0] w fun e w' => e = .returned (.bool r) ∧ Below w.heap.size w w' := by
 have HGMAX_ := Aside0.mk hGMAX_
 clear hGMAX_
 have hu27 := Tryd.underlying27
 have HR0 := Aside0.mk hr0
 have HC0 := Aside0.mk hc0
 clear hr0 hc0
 have HB := Aside0.mk (Below.refl w.heap.size w)
 have H : (if (l0.length : Int) > 1048576 then (some true) else ((laws_toByteS.f k l0).bind fun t234 => ((spec_DecodeTree.f k t234).bind fun bt237 => ((laws_toByteS.f k l0).bind fun t242 => ((impl_DecodeTree.f k t242).bind fun bt245 => ((laws_eqTreeResult.f k bt245.1 bt245.2 bt237.1 bt237.2).bind fun t250 => (if t250 = true then ((laws_toByteS.f k l0).bind fun t251 => ((laws_eqByteS.f k t242 t251).bind fun t254 => (if t254 = true then ((laws_markByteS.f k t242 1).bind fun bt255 => (if bt255.1 < 0 then (laws_FnExactDecodeTree.j0 k l0 true bt237.1 bt237.2 bt245.1 bt245.2) else ((laws_eqTreeResult.f k bt245.1 bt245.2 bt237.1 bt237.2).bind fun t257 => (laws_FnExactDecodeTree.j0 k l0 (!t257) bt237.1 bt237.2 bt245.1 bt245.2)))) else none))) else none))))))) = some r := h
 clear h
 by_cases c2 : (l0.length : Int) > 1048576
 ·rw [if_pos c2] at H
  have c2b0 : decide (1048576 < (l0.length : Int)) = true := decide_eq_true c2
  have c2b1 : decide (1048576 < l0.length) = true := decide_eq_true (by omega)
  clear c2
  obtain rfl := Option.some.inj H
  go_enter Tryd.func3, Tryd.ntmps3
  go_wp2
  go_ret
  exact ⟨by first | rfl | (simp [errW_none, errW_some] <;> rfl) | (simp [*, errW_none, errW_some] <;> rfl), by repeat (first | (with_reducible first | exact HB.out | apply ze | apply zc | apply zd | refine zj ?_ zH.out | refine zj ?_ zJ.out) | exact HB.out)⟩
 ·rw [if_neg c2] at H
  have c2b0 : decide (1048576 < (l0.length : Int)) = false := decide_eq_false c2
  have c2b1 : decide (1048576 < l0.length) = false := decide_eq_false (by omega)
  clear c2
  replace H := Option.bind_eq_some_iff.mp H
  obtain ⟨t234, A30, H⟩ := H
  replace H : ((spec_DecodeTree.f k t234).bind fun bt237 => ((laws_toByteS.f k l0).bind fun t242 => ((impl_DecodeTree.f k t242).bind fun bt245 => ((laws_eqTreeResult.f k bt245.1 bt245.2 bt237.1 bt237.2).bind fun t250 => (if t250 = true then ((laws_toByteS.f k l0).bind fun t251 => ((laws_eqByteS.f k t242 t251).bind fun t254 => (if t254 = true then ((laws_markByteS.f k t242 1).bind fun bt255 => (if bt255.1 < 0 then (laws_FnExactDecodeTree.j0 k l0 true bt237.1 bt237.2 bt245.1 bt245.2) else ((laws_eqTreeResult.f k bt245.1 bt245.2 bt237.1 bt237.2).bind fun t257 => (laws_FnExactDecodeTree.j0 k l0 (!t257) bt237.1 bt237.2 bt245.1 bt245.2)))) else none))) else none))))) = some r := H
  have A3 := Aside0.mk A30
  clear A30
  replace H := Option.bind_eq_some_iff.mp H
  obtain ⟨⟨t237, t238⟩, A40, H⟩ := H
  replace H : ((laws_toByteS.f k l0).bind fun t242 => ((impl_DecodeTree.f k t242).bind fun bt245 => ((laws_eqTreeResult.f k bt245.1 bt245.2 t237 t238).bind fun t250 => (if t250 = true then ((laws_toByteS.f k l0).bind fun t251 => ((laws_eqByteS.f k t242 t251).bind fun t254 => (if t254 = true then ((laws_markByteS.f k t242 1).bind fun bt255 => (if bt255.1 < 0 then (laws_FnExactDecodeTree.j0 k l0 true t237 t238 bt245.1 bt245.2) else ((laws_eqTreeResult.f k bt245.1 bt245.2 t237 t238).bind fun t257 => (laws_FnExactDecodeTree.j0 k l0 (!t257) t237 t238 bt245.1 bt245.2)))) else none))) else none)))) = some r := H
  have A4 := Aside0.mk A40
  clear A40
  replace H := Option.bind_eq_some_iff.mp H
  obtain ⟨t242, A50, H⟩ := H
  replace H : ((impl_DecodeTree.f k t242).bind fun bt245 => ((laws_eqTreeResult.f k bt245.1 bt245.2 t237 t238).bind fun t250 => (if t250 = true then ((laws_toByteS.f k l0).bind fun t251 => ((laws_eqByteS.f k t242 t251).bind fun t254 => (if t254 = true then ((laws_markByteS.f k t242 1).bind fun bt255 => (if bt255.1 < 0 then (laws_FnExactDecodeTree.j0 k l0 true t237 t238 bt245.1 bt245.2) else ((laws_eqTreeResult.f k bt245.1 bt245.2 t237 t238).bind fun t257 => (laws_FnExactDecodeTree.j0 k l0 (!t257) t237 t238 bt245.1 bt245.2)))) else none))) else none))) = some r := H
  have A5 := Aside0.mk A50
  clear A50
  replace H := Option.bind_eq_some_iff.mp H
  obtain ⟨⟨t245, t246⟩, A60, H⟩ := H
  replace H : ((laws_eqTreeResult.f k t245 t246 t237 t238).bind fun t250 => (if t250 = true then ((laws_toByteS.f k l0).bind fun t251 => ((laws_eqByteS.f k t242 t251).bind fun t254 => (if t254 = true then ((laws_markByteS.f k t242 1).bind fun bt255 => (if bt255.1 < 0 then (laws_FnExactDecodeTree.j0 k l0 true t237 t238 t245 t246) else ((laws_eqTreeResult.f k t245 t246 t237 t238).bind fun t257 => (laws_FnExactDecodeTree.j0 k l0 (!t257) t237 t238 t245 t246)))) else none))) else none)) = some r := H
  have A6 := Aside0.mk A60
  clear A60
  replace H := Option.bind_eq_some_iff.mp H
  obtain ⟨t250, A70, H⟩ := H
  replace H : (if t250 = true then ((laws_toByteS.f k l0).bind fun t251 => ((laws_eqByteS.f k t242 t251).bind fun t254 => (if t254 = true then ((laws_markByteS.f k t242 1).bind fun bt255 => (if bt255.1 < 0 then (laws_FnExactDecodeTree.j0 k l0 true t237 t238 t245 t246) else ((laws_eqTreeResult.f k t245 t246 t237 t238).bind fun t257 => (laws_FnExactDecodeTree.j0 k l0 (!t257) t237 t238 t245 t246)))) else none))) else none) = some r := H
  have A7 := Aside0.mk A70
  clear A70
  by_cases c8 : t250 = true
  ·subst c8
   have H1 : ((laws_toByteS.f k l0).bind fun t251 => ((laws_eqByteS.f k t242 t251).bind fun t254 => (if t254 = true then ((laws_markByteS.f k t242 1).bind fun bt255 => (if bt255.1 < 0 then (laws_FnExactDecodeTree.j0 k l0 true t237 t238 t245 t246) else ((laws_eqTreeResult.f k t245 t246 t237 t238).bind fun t257 => (laws_FnExactDecodeTree.j0 k l0 (!t257) t237 t238 t245 t246)))) else none))) = some r := by rw [if_pos rfl] at H; exact H
   clear H
   have H := H1
   clear H1
   replace H := Option.bind_eq_some_iff.mp H
   obtain ⟨t251, A90, H⟩ := H
   replace H : ((laws_eqByteS.f k t242 t251).bind fun t254 => (if t254 = true then ((laws_markByteS.f k t242 1).bind fun bt255 => (if bt255.1 < 0 then (laws_FnExactDecodeTree.j0 k l0 true t237 t238 t245 t246) else ((laws_eqTreeResult.f k t245 t246 t237 t238).bind fun t257 => (laws_FnExactDecodeTree.j0 k l0 (!t257) t237 t238 t245 t246)))) else none)) = some r := H
   have A9 := Aside0.mk A90
   clear A90
   replace H := Option.bind_eq_some_iff.mp H
   obtain ⟨t254, A100, H⟩ := H
   replace H : (if t254 = true then ((laws_markByteS.f k t242 1).bind fun bt255 => (if bt255.1 < 0 then (laws_FnExactDecodeTree.j0 k l0 true t237 t238 t245 t246) else ((laws_eqTreeResult.f k t245 t246 t237 t238).bind fun t257 => (laws_FnExactDecodeTree.j0 k l0 (!t257) t237 t238 t245 t246)))) else none) = some r := H
   have A10 := Aside0.mk A100
   clear A100
   by_cases c11 : t254 = true
   ·subst c11
    have H1 : ((laws_markByteS.f k t242 1).bind fun bt255 => (if bt255.1 < 0 then (laws_FnExactDecodeTree.j0 k l0 true t237 t238 t245 t246) else ((laws_eqTreeResult.f k t245 t246 t237 t238).bind fun t257 => (laws_FnExactDecodeTree.j0 k l0 (!t257) t237 t238 t245 t246)))) = some r := by rw [if_pos rfl] at H; exact H
    clear H
    have H := H1
    clear H1
    replace H := Option.bind_eq_some_iff.mp H
    obtain ⟨⟨t255, t256⟩, A120, H⟩ := H
    replace H : (if t255 < 0 then (laws_FnExactDecodeTree.j0 k l0 true t237 t238 t245 t246) else ((laws_eqTreeResult.f k t245 t246 t237 t238).bind fun t257 => (laws_FnExactDecodeTree.j0 k l0 (!t257) t237 t238 t245 t246))) = some r := H
    have A12 := Aside0.mk A120
    clear A120
    have HC13 := Aside0.mk H
    clear H
    go_enter Tryd.func3, Tryd.ntmps3
    go_upto_region 12 with (first | ((with_reducible refine zq (f := 12) rfl ?_); refine zz (some 14) rfl rfl Tryd.func12 (by kernel_rfl) rfl #[.slice A0 l0.length c0] rfl (by (try simp only [List.map_toArray, List.map_cons, List.map_nil]); first | done | rfl | (simp only [List.length_drop, List.length_take]; rfl)) ?_; (with_reducible refine (laws_toByteS.calls k _ _ l0 t234 _ ?side1 ?side2 A3.out).mono ?_); (case side1 => repeat (first | exact HR0.out | (with_reducible refine Kd.C_alloc ?_ _) | (with_reducible refine Kd.C_drewN ?_ _) | (with_reducible refine Kd.C_drew ?_))); (case side2 => exact HC0.out); rintro e w14 ⟨v235, rfl, zQ, hb⟩; refine ⟨_, rfl, ?_⟩; have n0_ := Aside0.mk (Kd.R_lower zQ (zm (by repeat (first | (with_reducible first | exact HB.out | apply ze | apply zc | apply zd) | exact HB.out)))); have n1_ := Aside0.mk (zl (by repeat (first | (with_reducible first | exact HB.out | apply ze | apply zc | apply zd) | exact HB.out)) hb); clear HB; have zK := n0_; have HB := n1_; clear n0_ n1_; (try clear hb); (try clear hb2); (try clear hk); (try clear hi); (try clear zQ); obtain ⟨Ao15, co15, eo15⟩ := Kd.R_slice zK.out; subst eo15) | ((with_reducible refine zq (f := 11) rfl ?_); refine zz (some 15) rfl rfl Tryd.func11 (by kernel_rfl) rfl #[.slice Ao15 t234.length co15] rfl (by (try simp only [List.map_toArray, List.map_cons, List.map_nil]); first | done | rfl | (simp only [List.length_drop, List.length_take]; rfl)) ?_; (with_reducible refine (spec_DecodeTree.calls k _ _ t234 t237 t238 _ ?side1 ?side2 A4.out).mono ?_); (case side1 => repeat (first | exact (Kd.R_reads' zK.out).2.2 | (with_reducible refine Kd.C_alloc ?_ _) | (with_reducible refine Kd.C_drewN ?_ _) | (with_reducible refine Kd.C_drew ?_))); (case side2 => exact (Kd.R_reads' zK.out).2.1); rintro e w16 ⟨v239, rfl, zQ, hb⟩; refine ⟨_, rfl, ?_⟩; have n0_ := Aside0.mk (Kd.R_below (by (with_reducible repeat (first | apply Kd.R_alloc | apply Kd.R_drewN | apply Kd.R_drew)); exact zK.out) hb); have n1_ := Aside0.mk (Kd.R_lower zQ (zm (by repeat (first | (with_reducible first | exact HB.out | apply ze | apply zc | apply zd) | exact HB.out)))); have n2_ := Aside0.mk (zl (by repeat (first | (with_reducible first | exact HB.out | apply ze | apply zc | apply zd) | exact HB.out)) hb); clear zK; clear HB; have zK := n0_; have zL := n1_; have HB := n2_; clear n0_ n1_ n2_; (try clear hb); (try clear hb2); (try clear hk); (try clear hi); (try clear zQ)) | ((with_reducible refine zv (N := 3) rfl ?_); refine zw ?hg (N := 3) ?hd (cs := #[.bool false, .slice none 0 0]) (t := 27) ?hr ?_; (case hd => rfl); (case hg => rfl); (case hr => first | (go_simp; done) | (go_simp; rfl)); intro zG hg w17 hbox hb; have n0_ := Aside0.mk (Kd.R_below (by (with_reducible repeat (first | apply Kd.R_alloc | apply Kd.R_drewN | apply Kd.R_drew)); exact zK.out) hb); have n1_ := Aside0.mk (Kd.R_below (by (with_reducible repeat (first | apply Kd.R_alloc | apply Kd.R_drewN | apply Kd.R_drew)); exact zL.out) hb); have n2_ := Aside0.mk (zl (by repeat (first | (with_reducible first | exact HB.out | apply ze | apply zc | apply zd) | exact HB.out)) hb); have n3_ := Aside0.mk (hbox); have n4_ := Aside0.mk ((by rw [hg]; exact (zm (by repeat (first | (with_reducible first | exact HB.out | apply ze | apply zc | apply zd) | exact HB.out))) : w.heap.size ≤ zG)); have n5_ := Aside0.mk ((by rw [hg]; exact (zm (by repeat (first | (with_reducible first | exact HB.out | apply ze | apply zc | apply zd) | exact HB.out))) : w.heap.size ≤ zG)); clear zK; clear zL; clear HB; have zK := n0_; have zL := n1_; have HB := n2_; have zD := n3_; have GW241 := n4_; have zH := n5_; clear n0_ n1_ n2_ n3_ n4_ n5_; clear hb hbox hg; have zab : w17.cell? ⟨zG, 0, none⟩ = some (.bool false) := (zg zD.out 0).trans rfl; have zbb : w17.cell? ⟨zG, 1, none⟩ = some (.slice none 0 0) := (zg zD.out 1).trans rfl; have zcb := zf zD.out 0; have zdb := zf zD.out 1; obtain ⟨Ao19, co19, eo19⟩ := Kd.R_slice zL.out; subst eo19) | ((with_reducible refine zq (f := 12) rfl ?_); refine zz (some 17) rfl rfl Tryd.func12 (by kernel_rfl) rfl #[.slice A0 l0.length c0] rfl (by (try simp only [List.map_toArray, List.map_cons, List.map_nil]); first | done | rfl | (simp only [List.length_drop, List.length_take]; rfl)) ?_; (with_reducible refine (laws_toByteS.calls k _ _ l0 t242 _ ?side1 ?side2 A5.out).mono ?_); (case side1 => exact Kd.C_below HR0.out (by repeat (first | (with_reducible first | exact HB.out | apply ze | apply zc | apply zd | refine zj ?_ zH.out) | exact HB.out))); (case side2 => exact HC0.out); rintro e w20 ⟨v243, rfl, zQ, hb⟩; refine ⟨_, rfl, ?_⟩; have n0_ := Aside0.mk (Kd.R_elder' (by (with_reducible repeat (first | apply Kd.R_alloc | apply Kd.R_drewN | apply Kd.R_drew)); exact (Kd.R_mono (Kd.R_far (p := ⟨zG, 1, none⟩) (Kd.R_far (p := ⟨zG, 0, none⟩) (Kd.R_types zK.out zD.out (by decide)) (fun _ hk => hk.2) (.bool t237)) (fun _ hk => hk.2) (.slice Ao19 t238.length co19)) (fun _ h_ => h_.1))) (Kd.R_base zQ) hb); have n1_ := Aside0.mk (Kd.R_below (by (with_reducible repeat (first | apply Kd.R_alloc | apply Kd.R_drewN | apply Kd.R_drew)); exact (Kd.R_mono (Kd.R_far (p := ⟨zG, 1, none⟩) (Kd.R_far (p := ⟨zG, 0, none⟩) (Kd.R_types zL.out zD.out (by decide)) (fun _ hk => hk.2) (.bool t237)) (fun _ hk => hk.2) (.slice Ao19 t238.length co19)) (fun _ h_ => h_.1))) hb); have n2_ := Aside0.mk (Kd.R_lower (Kd.R_new' zQ (Kd.R_lt (by (with_reducible repeat (first | apply Kd.R_alloc | apply Kd.R_drewN | apply Kd.R_drew)); exact (Kd.R_mono (Kd.R_far (p := ⟨zG, 1, none⟩) (Kd.R_far (p := ⟨zG, 0, none⟩) (Kd.R_types zK.out zD.out (by decide)) (fun _ hk => hk.2) (.bool t237)) (fun _ hk => hk.2) (.slice Ao19 t238.length co19)) (fun _ h_ => h_.1))))) (zm (by repeat (first | (with_reducible first | exact HB.out | apply ze | apply zc | apply zd | refine zj ?_ zH.out) | exact HB.out)))); have n3_ := Aside0.mk (zt (g := zG) (o := .cells #[.bool t237, .slice Ao19 t238.length co19] 27 (0, 0)) (by (with_reducible repeat (first | refine zi ?_ _ | refine zk ?_ | refine zh ?_ _)); refine zx (cs := #[.bool t237, .slice none 0 0]) ?_ 1 _ rfl; (with_reducible repeat (first | refine zi ?_ _ | refine zk ?_ | refine zh ?_ _)); refine zx (cs := #[.bool false, .slice none 0 0]) ?_ 0 _ rfl; (with_reducible repeat (first | refine zi ?_ _ | refine zk ?_ | refine zh ?_ _)); exact zD.out) hb); have n4_ := Aside0.mk (zl (by repeat (first | (with_reducible first | exact HB.out | apply ze | apply zc | apply zd | refine zj ?_ zH.out) | exact HB.out)) hb); clear zK; clear zL; clear zD; clear HB; have zK := n0_; have zL := n1_; have zM := n2_; have zD := n3_; have HB := n4_; clear n0_ n1_ n2_ n3_ n4_; (try clear hb); (try clear hb2); (try clear hk); (try clear hi); (try clear zQ); obtain ⟨Ao21, co21, eo21⟩ := Kd.R_slice zM.out; subst eo21) | ((with_reducible refine zq (f := 13) rfl ?_); refine zz (some 19) rfl rfl Tryd.func13 (by kernel_rfl) rfl #[.slice Ao21 t242.length co21] rfl (by (try simp only [List.map_toArray, List.map_cons, List.map_nil]); first | done | rfl | (simp only [List.length_drop, List.length_take]; rfl)) ?_; (with_reducible refine (impl_DecodeTree.calls k _ _ t242 t245 t246 _ ?side1 ?side2 A6.out ?globMAX_).mono ?_); (case globMAX_ => exact Go.Proofs.YtjoafknckmoojaaDoorH.GFMAX.below HGMAX_.out (by repeat (first | (with_reducible first | exact HB.out | exact Below.refl _ _ | apply ze | apply zc | apply zd | refine zj ?_ (Aside0.out (by assumption))) | exact HB.out))); (case side1 => repeat (first | exact (Kd.R_reads' zM.out).2.2 | (with_reducible refine Kd.C_alloc ?_ _) | (with_reducible refine Kd.C_drewN ?_ _) | (with_reducible refine Kd.C_drew ?_))); (case side2 => exact (Kd.R_reads' zM.out).2.1); rintro e w22 ⟨v247, rfl, zQ, hb⟩; refine ⟨_, rfl, ?_⟩; have n0_ := Aside0.mk (Kd.R_below (by (with_reducible repeat (first | apply Kd.R_alloc | apply Kd.R_drewN | apply Kd.R_drew)); exact zK.out) hb); have n1_ := Aside0.mk (Kd.R_elder' (by (with_reducible repeat (first | apply Kd.R_alloc | apply Kd.R_drewN | apply Kd.R_drew)); exact zL.out) (Kd.R_base zQ) hb); have n2_ := Aside0.mk (Kd.R_below (by (with_reducible repeat (first | apply Kd.R_alloc | apply Kd.R_drewN | apply Kd.R_drew)); exact zM.out) hb); have n3_ := Aside0.mk (Kd.R_lower (Kd.R_new' zQ (Kd.R_lt (by (with_reducible repeat (first | apply Kd.R_alloc | apply Kd.R_drewN | apply Kd.R_drew)); exact zL.out))) (zm (by repeat (first | (with_reducible first | exact HB.out | apply ze | apply zc | apply zd | refine zj ?_ zH.out) | exact HB.out)))); have n4_ := Aside0.mk (zt (g := zG) (o := .cells #[.bool t237, .slice Ao19 t238.length co19] 27 (0, 0)) (by (with_reducible repeat (first | refine zi ?_ _ | refine zk ?_ | refine zh ?_ _)); exact zD.out) hb); have n5_ := Aside0.mk (zl (by repeat (first | (with_reducible first | exact HB.out | apply ze | apply zc | apply zd | refine zj ?_ zH.out) | exact HB.out)) hb); clear zK; clear zL; clear zM; clear zD; clear HB; have zK := n0_; have zL := n1_; have zM := n2_; have zP := n3_; have zD := n4_; have HB := n5_; clear n0_ n1_ n2_ n3_ n4_ n5_; (try clear hb); (try clear hb2); (try clear hk); (try clear hi); (try clear zQ)) | ((with_reducible refine zv (N := 5) rfl ?_); refine zw ?hg (N := 5) ?hd (cs := #[.bool false, .slice none 0 0]) (t := 27) ?hr ?_; (case hd => rfl); (case hg => rfl); (case hr => first | (go_simp; done) | (go_simp; rfl)); intro zF hg w23 hbox hb; have n0_ := Aside0.mk (Kd.R_below (by (with_reducible repeat (first | apply Kd.R_alloc | apply Kd.R_drewN | apply Kd.R_drew)); exact zK.out) hb); have n1_ := Aside0.mk (Kd.R_below (by (with_reducible repeat (first | apply Kd.R_alloc | apply Kd.R_drewN | apply Kd.R_drew)); exact zL.out) hb); have n2_ := Aside0.mk (Kd.R_below (by (with_reducible repeat (first | apply Kd.R_alloc | apply Kd.R_drewN | apply Kd.R_drew)); exact zM.out) hb); have n3_ := Aside0.mk (Kd.R_below (by (with_reducible repeat (first | apply Kd.R_alloc | apply Kd.R_drewN | apply Kd.R_drew)); exact zP.out) hb); have n4_ := Aside0.mk (zt (g := zG) (o := .cells #[.bool t237, .slice Ao19 t238.length co19] 27 (0, 0)) (by (with_reducible repeat (first | refine zi ?_ _ | refine zk ?_ | refine zh ?_ _)); exact zD.out) hb); have n5_ := Aside0.mk (zl (by repeat (first | (with_reducible first | exact HB.out | apply ze | apply zc | apply zd | refine zj ?_ zH.out) | exact HB.out)) hb); have n6_ := Aside0.mk (hbox); have n7_ := Aside0.mk ((by rw [hg]; exact (zm (by repeat (first | (with_reducible first | exact HB.out | apply ze | apply zc | apply zd | refine zj ?_ zH.out) | exact HB.out))) : w.heap.size ≤ zF)); have n8_ := Aside0.mk ((by rw [hg]; exact (zm (by repeat (first | (with_reducible first | exact HB.out | apply ze | apply zc | apply zd | refine zj ?_ zH.out) | exact HB.out))) : w.heap.size ≤ zF)); have n9_ := Aside0.mk ((by rw [hg]; exact Nat.ne_of_lt (zy (g := zG) (o := .cells #[.bool t237, .slice Ao19 t238.length co19] 27 (0, 0)) (by (with_reducible repeat (first | refine zi ?_ _ | refine zk ?_ | refine zh ?_ _)); exact zD.out)) : zG ≠ zF)); have n10_ := Aside0.mk ((by rw [hg]; exact Nat.ne_of_gt (zy (g := zG) (o := .cells #[.bool t237, .slice Ao19 t238.length co19] 27 (0, 0)) (by (with_reducible repeat (first | refine zi ?_ _ | refine zk ?_ | refine zh ?_ _)); exact zD.out)) : zF ≠ zG)); clear zK; clear zL; clear zM; clear zP; clear zD; clear HB; have zK := n0_; have zL := n1_; have zM := n2_; have zP := n3_; have zD := n4_; have HB := n5_; have zC := n6_; have GW249 := n7_; have zJ := n8_; have zS := n9_; have zV := n10_; clear n0_ n1_ n2_ n3_ n4_ n5_ n6_ n7_ n8_ n9_ n10_; clear hb hbox hg; have zqc := zV.out; have zrc := zS.out; have zeb : w23.cell? ⟨zF, 0, none⟩ = some (.bool false) := (zg zC.out 0).trans rfl; have zfb : w23.cell? ⟨zF, 1, none⟩ = some (.slice none 0 0) := (zg zC.out 1).trans rfl; have zgb := zf zC.out 0; have zhb := zf zC.out 1; obtain ⟨Ao26, co26, eo26⟩ := Kd.R_slice zP.out; subst eo26; have zib : w23.cell? ⟨zG, 0, none⟩ = some (.bool t237) := (zg zD.out 0).trans rfl; have zjb : w23.cell? ⟨zG, 1, none⟩ = some (.slice Ao19 t238.length co19) := (zg zD.out 1).trans rfl; have zkb := zf zD.out 0; have zlb := zf zD.out 1) | ((with_reducible refine zq (f := 14) rfl ?_); refine zz (some 22) rfl rfl Tryd.func14 (by kernel_rfl) rfl #[.agg #[.bool t245, .slice Ao26 t246.length co26], .agg #[.bool t237, .slice Ao19 t238.length co19]] rfl (by (try simp only [List.map_toArray, List.map_cons, List.map_nil]); first | done | rfl | (simp only [List.length_drop, List.length_take]; rfl)) ?_; (with_reducible refine (laws_eqTreeResult.calls k t245 _ _ t246 t237 _ _ t238 true _ ?side1 ?side2 ?side3 ?side4 A7.out).mono ?_); (case side1 => refine (Kd.R_reads' (e := 92) (base := w.heap.size) (ok := fun k_ => (True ∧ some k_ ≠ (.slice Ao19 t238.length co19 : Value).ownBlock)) (n := t246.length) (c := co26) ?_).2.2; exact (by (with_reducible repeat (first | apply Kd.R_alloc | apply Kd.R_drewN | apply Kd.R_drew)); exact (Kd.R_mono (Kd.R_far (p := ⟨zF, 1, none⟩) (Kd.R_far (p := ⟨zF, 0, none⟩) (Kd.R_types zP.out zC.out (by decide)) (fun _ hk => hk.2) (.bool t245)) (fun _ hk => hk.2) (.slice Ao26 t246.length co26)) (fun _ h_ => h_.1)))); (case side2 => exact (Kd.R_reads' zP.out).2.1); (case side3 => refine (Kd.R_reads' (e := 92) (base := w.heap.size) (ok := fun k_ => (True ∧ some k_ ≠ (.slice Ao26 t246.length co26 : Value).ownBlock)) (n := t238.length) (c := co19) ?_).2.2; exact (by (with_reducible repeat (first | apply Kd.R_alloc | apply Kd.R_drewN | apply Kd.R_drew)); exact (Kd.R_mono (Kd.R_far (p := ⟨zF, 1, none⟩) (Kd.R_far (p := ⟨zF, 0, none⟩) (Kd.R_types zL.out zC.out (by decide)) (fun _ hk => hk.2) (.bool t245)) (fun _ hk => hk.2) (.slice Ao26 t246.length co26)) (fun _ h_ => h_.1)))); (case side4 => exact (Kd.R_reads' zL.out).2.1); rintro e w28 ⟨rfl, hb⟩; refine ⟨_, rfl, ?_⟩; have n0_ := Aside0.mk (Kd.R_below (by (with_reducible repeat (first | apply Kd.R_alloc | apply Kd.R_drewN | apply Kd.R_drew)); exact (Kd.R_mono (Kd.R_far (p := ⟨zF, 1, none⟩) (Kd.R_far (p := ⟨zF, 0, none⟩) (Kd.R_types zK.out zC.out (by decide)) (fun _ hk => hk.2) (.bool t245)) (fun _ hk => hk.2) (.slice Ao26 t246.length co26)) (fun _ h_ => h_.1))) hb); have n1_ := Aside0.mk (Kd.R_below (by (with_reducible repeat (first | apply Kd.R_alloc | apply Kd.R_drewN | apply Kd.R_drew)); exact (Kd.R_mono (Kd.R_far (p := ⟨zF, 1, none⟩) (Kd.R_far (p := ⟨zF, 0, none⟩) (Kd.R_types zL.out zC.out (by decide)) (fun _ hk => hk.2) (.bool t245)) (fun _ hk => hk.2) (.slice Ao26 t246.length co26)) (fun _ h_ => h_.1))) hb); have n2_ := Aside0.mk (Kd.R_below (by (with_reducible repeat (first | apply Kd.R_alloc | apply Kd.R_drewN | apply Kd.R_drew)); exact (Kd.R_mono (Kd.R_far (p := ⟨zF, 1, none⟩) (Kd.R_far (p := ⟨zF, 0, none⟩) (Kd.R_types zM.out zC.out (by decide)) (fun _ hk => hk.2) (.bool t245)) (fun _ hk => hk.2) (.slice Ao26 t246.length co26)) (fun _ h_ => h_.1))) hb); have n3_ := Aside0.mk (Kd.R_below (by (with_reducible repeat (first | apply Kd.R_alloc | apply Kd.R_drewN | apply Kd.R_drew)); exact (Kd.R_mono (Kd.R_far (p := ⟨zF, 1, none⟩) (Kd.R_far (p := ⟨zF, 0, none⟩) (Kd.R_types zP.out zC.out (by decide)) (fun _ hk => hk.2) (.bool t245)) (fun _ hk => hk.2) (.slice Ao26 t246.length co26)) (fun _ h_ => h_.1))) hb); have n4_ := Aside0.mk (zt (g := zG) (o := .cells #[.bool t237, .slice Ao19 t238.length co19] 27 (0, 0)) (by (with_reducible repeat (first | refine zi ?_ _ | refine zk ?_ | refine zh ?_ _)); refine blk_far ?_ zS.out _; (with_reducible repeat (first | refine zi ?_ _ | refine zk ?_ | refine zh ?_ _)); refine blk_far ?_ zS.out _; (with_reducible repeat (first | refine zi ?_ _ | refine zk ?_ | refine zh ?_ _)); exact zD.out) hb); have n5_ := Aside0.mk (zt (g := zF) (o := .cells #[.bool t245, .slice Ao26 t246.length co26] 27 (0, 0)) (by (with_reducible repeat (first | refine zi ?_ _ | refine zk ?_ | refine zh ?_ _)); refine zx (cs := #[.bool t245, .slice none 0 0]) ?_ 1 _ rfl; (with_reducible repeat (first | refine zi ?_ _ | refine zk ?_ | refine zh ?_ _)); refine zx (cs := #[.bool false, .slice none 0 0]) ?_ 0 _ rfl; (with_reducible repeat (first | refine zi ?_ _ | refine zk ?_ | refine zh ?_ _)); exact zC.out) hb); have n6_ := Aside0.mk (zl (by repeat (first | (with_reducible first | exact HB.out | apply ze | apply zc | apply zd | refine zj ?_ zH.out | refine zj ?_ zJ.out) | exact HB.out)) hb); clear zK; clear zL; clear zM; clear zP; clear zD; clear zC; clear HB; have zK := n0_; have zL := n1_; have zM := n2_; have zP := n3_; have zD := n4_; have zC := n5_; have HB := n6_; clear n0_ n1_ n2_ n3_ n4_ n5_ n6_; (try clear hb); (try clear hb2); (try clear hk); (try clear hi)) | ((with_reducible refine zq (f := 12) rfl ?_); refine zz (some 26) rfl rfl Tryd.func12 (by kernel_rfl) rfl #[.slice A0 l0.length c0] rfl (by (try simp only [List.map_toArray, List.map_cons, List.map_nil]); first | done | rfl | (simp only [List.length_drop, List.length_take]; rfl)) ?_; (with_reducible refine (laws_toByteS.calls k _ _ l0 t251 _ ?side1 ?side2 A9.out).mono ?_); (case side1 => repeat (first | exact (Kd.C_below HR0.out HB.out) | (with_reducible refine Kd.C_alloc ?_ _) | (with_reducible refine Kd.C_drewN ?_ _) | (with_reducible refine Kd.C_drew ?_))); (case side2 => exact HC0.out); rintro e w29 ⟨v252, rfl, zQ, hb⟩; refine ⟨_, rfl, ?_⟩; have n0_ := Aside0.mk (Kd.R_elder' (by (with_reducible repeat (first | apply Kd.R_alloc | apply Kd.R_drewN | apply Kd.R_drew)); exact zK.out) (Kd.R_base zQ) hb); have n1_ := Aside0.mk (Kd.R_below (by (with_reducible repeat (first | apply Kd.R_alloc | apply Kd.R_drewN | apply Kd.R_drew)); exact zL.out) hb); have n2_ := Aside0.mk (Kd.R_elder' (by (with_reducible repeat (first | apply Kd.R_alloc | apply Kd.R_drewN | apply Kd.R_drew)); exact zM.out) (Kd.R_base zQ) hb); have n3_ := Aside0.mk (Kd.R_below (by (with_reducible repeat (first | apply Kd.R_alloc | apply Kd.R_drewN | apply Kd.R_drew)); exact zP.out) hb); have n4_ := Aside0.mk (Kd.R_lower (Kd.R_new' (Kd.R_new' zQ (Kd.R_lt (by (with_reducible repeat (first | apply Kd.R_alloc | apply Kd.R_drewN | apply Kd.R_drew)); exact zK.out))) (Kd.R_lt (by (with_reducible repeat (first | apply Kd.R_alloc | apply Kd.R_drewN | apply Kd.R_drew)); exact zM.out))) (zm (by repeat (first | (with_reducible first | exact HB.out | apply ze | apply zc | apply zd | refine zj ?_ zH.out | refine zj ?_ zJ.out) | exact HB.out)))); have n5_ := Aside0.mk (zt (g := zG) (o := .cells #[.bool t237, .slice Ao19 t238.length co19] 27 (0, 0)) (by (with_reducible repeat (first | refine zi ?_ _ | refine zk ?_ | refine zh ?_ _)); exact zD.out) hb); have n6_ := Aside0.mk (zt (g := zF) (o := .cells #[.bool t245, .slice Ao26 t246.length co26] 27 (0, 0)) (by (with_reducible repeat (first | refine zi ?_ _ | refine zk ?_ | refine zh ?_ _)); exact zC.out) hb); have n7_ := Aside0.mk (zl (by repeat (first | (with_reducible first | exact HB.out | apply ze | apply zc | apply zd | refine zj ?_ zH.out | refine zj ?_ zJ.out) | exact HB.out)) hb); clear zK; clear zL; clear zM; clear zP; clear zD; clear zC; clear HB; have zK := n0_; have zL := n1_; have zM := n2_; have zP := n3_; have zW := n4_; have zD := n5_; have zC := n6_; have HB := n7_; clear n0_ n1_ n2_ n3_ n4_ n5_ n6_ n7_; (try clear hb); (try clear hb2); (try clear hk); (try clear hi); (try clear zQ); obtain ⟨Ao30, co30, eo30⟩ := Kd.R_slice zW.out; subst eo30) | ((with_reducible refine zq (f := 15) rfl ?_); refine zz (some 27) rfl rfl Tryd.func15 (by kernel_rfl) rfl #[.slice Ao21 t242.length co21, .slice Ao30 t251.length co30] rfl (by (try simp only [List.map_toArray, List.map_cons, List.map_nil]); first | done | rfl | (simp only [List.length_drop, List.length_take]; rfl)) ?_; (with_reducible refine (laws_eqByteS.calls k _ _ t242 _ _ t251 true _ ?side1 ?side2 ?side3 ?side4 A10.out).mono ?_); (case side1 => repeat (first | exact (Kd.R_reads' zM.out).2.2 | (with_reducible refine Kd.C_alloc ?_ _) | (with_reducible refine Kd.C_drewN ?_ _) | (with_reducible refine Kd.C_drew ?_))); (case side2 => exact (Kd.R_reads' zM.out).2.1); (case side3 => repeat (first | exact (Kd.R_reads' zW.out).2.2 | (with_reducible refine Kd.C_alloc ?_ _) | (with_reducible refine Kd.C_drewN ?_ _) | (with_reducible refine Kd.C_drew ?_))); (case side4 => exact (Kd.R_reads' zW.out).2.1); rintro e w' ⟨rfl, ⟨nd, rfl⟩⟩; refine ⟨_, rfl, ?_⟩) | ((with_reducible refine zq (f := 16) rfl ?_); refine zz (some 31) rfl rfl Tryd.func16 (by kernel_rfl) rfl #[.slice Ao21 t242.length co21, .int .i64 1] rfl (by (try simp only [List.map_toArray, List.map_cons, List.map_nil]); first | done | rfl | (simp only [List.length_drop, List.length_take]; rfl)) ?_; (with_reducible refine (laws_markByteS.calls k (fun k_ => some k_ = (.slice Ao21 t242.length co21 : Value).ownBlock) (.slice Ao21 t242.length co21) t242 1 t255 t256 w _ ?side1 ?side2 A12.out).mono ?_); (case side1 => repeat (first | (with_reducible first | exact HB.out | apply ze | apply zc | apply zd | refine zj ?_ zH.out | refine zj ?_ zJ.out) | exact HB.out)); (case side2 => exact Kd.R_tight rfl zM.out); rintro e w31 ⟨rfl, hy0, hb, hkp⟩; refine ⟨_, rfl, ?_⟩; have n0_ := Aside0.mk (Kd.R_mono (ok' := fun k_ => some k_ ≠ (.slice Ao21 t242.length co21 : Value).ownBlock ∧ some k_ ≠ (.slice Ao30 t251.length co30 : Value).ownBlock) (Kd.R_keptB (zK.out) hkp (fun k_ hk_ hs_ => by first | exact (hk_.1.2) hs_ | exact hk_.1 hs_ | exact hk_.2 hs_ | exact hk_.1.1 hs_ | exact hk_.1.2 hs_ | exact hk_.2.1 hs_ | exact hk_.2.2 hs_)) (fun k_ hk_ => by first | exact ⟨hk_.1.1.2, hk_.1.2⟩ | exact hk_.1 | exact ⟨hk_.1.1, hk_.1.2⟩ | exact ⟨hk_.1.2, hk_.1.1⟩ | exact hk_.1.1 | exact hk_.1.2)); have n1_ := Aside0.mk (Kd.R_mono (ok' := fun k_ => some k_ ≠ (.slice Ao26 t246.length co26 : Value).ownBlock) (Kd.R_keptB ((Kd.R_apart' zL.out (Kd.R_typed zM.out) (by decide))) hkp (fun k_ hk_ hs_ => by first | exact (hk_.2) hs_ | exact hk_.1 hs_ | exact hk_.2 hs_ | exact hk_.1.1 hs_ | exact hk_.1.2 hs_ | exact hk_.2.1 hs_ | exact hk_.2.2 hs_)) (fun k_ hk_ => by first | exact hk_.1.1.2 | exact hk_.1 | exact ⟨hk_.1.1, hk_.1.2⟩ | exact ⟨hk_.1.2, hk_.1.1⟩ | exact hk_.1.1 | exact hk_.1.2)); have n2_ := Aside0.mk (blk_kept (by (with_reducible repeat (first | refine zi ?_ _ | refine zk ?_ | refine zh ?_ _)); exact zD.out) hkp (fun hs_ => (fun e_ => (Kd.R_ne zM.out zD.out (by decide)) e_) hs_)); have n3_ := Aside0.mk (Kd.R_reok rfl hy0 (fun k_ e_ => zM.out.1 k_ e_)); have n4_ := Aside0.mk (Kd.R_mono (ok' := fun k_ => some k_ ≠ (.slice Ao19 t238.length co19 : Value).ownBlock) (Kd.R_keptB ((Kd.R_apart' zP.out (Kd.R_typed zM.out) (by decide))) hkp (fun k_ hk_ hs_ => by first | exact (hk_.2) hs_ | exact hk_.1 hs_ | exact hk_.2 hs_ | exact hk_.1.1 hs_ | exact hk_.1.2 hs_ | exact hk_.2.1 hs_ | exact hk_.2.2 hs_)) (fun k_ hk_ => by first | exact hk_.1.1.2 | exact hk_.1 | exact ⟨hk_.1.1, hk_.1.2⟩ | exact ⟨hk_.1.2, hk_.1.1⟩ | exact hk_.1.1 | exact hk_.1.2)); have n5_ := Aside0.mk (blk_kept (by (with_reducible repeat (first | refine zi ?_ _ | refine zk ?_ | refine zh ?_ _)); exact zC.out) hkp (fun hs_ => (fun e_ => (Kd.R_ne zM.out zC.out (by decide)) e_) hs_)); have n6_ := Aside0.mk (Kd.R_mono (ok' := fun k_ => some k_ ≠ (.slice Ao15 t234.length co15 : Value).ownBlock ∧ some k_ ≠ (.slice Ao21 t242.length co21 : Value).ownBlock) (Kd.R_keptB (zW.out) hkp (fun k_ hk_ hs_ => by first | exact (hk_.2) hs_ | exact hk_.1 hs_ | exact hk_.2 hs_ | exact hk_.1.1 hs_ | exact hk_.1.2 hs_ | exact hk_.2.1 hs_ | exact hk_.2.2 hs_)) (fun k_ hk_ => by first | exact ⟨hk_.1.1.2, hk_.1.2⟩ | exact hk_.1 | exact ⟨hk_.1.1, hk_.1.2⟩ | exact ⟨hk_.1.2, hk_.1.1⟩ | exact hk_.1.1 | exact hk_.1.2)); have n7_ := Aside0.mk (hb); clear zK; clear zL; clear zD; clear zM; clear zP; clear zC; clear zW; clear HB; have zK := n0_; have zL := n1_; have zD := n2_; have zM := n3_; have zP := n4_; have zC := n5_; have zW := n6_; have HB := n7_; clear n0_ n1_ n2_ n3_ n4_ n5_ n6_ n7_; (try clear hb); (try clear hkp); (try clear hy0)))
    (try simp only [Act.put, List.setIfInBounds_toArray, List.set_cons_zero, List.set_cons_succ])
    go_cut [39] (fun v39 wc => ∃ (kq : Nat) (x39_12 : Bool), v39 = .bool x39_12 ∧ Aside0 (laws_FnExactDecodeTree.j0 kq l0 x39_12 t237 t238 t245 t246 = some r) ∧ Aside0 (kq ≤ k) ∧ Aside0 (Kd.R k92 92 wc w.heap.size (fun k_ => some k_ ≠ ((.slice Ao26 t246.length co26) : Value).ownBlock) (.slice Ao19 t238.length co19) t238) ∧ Aside0 (Kd.R k92 92 wc w.heap.size (fun k_ => some k_ ≠ ((.slice Ao19 t238.length co19) : Value).ownBlock) (.slice Ao26 t246.length co26) t246) ∧ Aside0 (wc.heap[zG]? = some (.cells #[.bool t237, (.slice Ao19 t238.length co19)] 27 (0, 0))) ∧ Aside0 (wc.heap[zF]? = some (.cells #[.bool t245, (.slice Ao26 t246.length co26)] 27 (0, 0))) ∧ Aside0 (Below w.heap.size w wc))
    case first =>
     have H := HC13.out
     clear HC13
     by_cases c32 : t255 < 0
     ·rw [if_pos c32] at H
      have c32b0 : decide (t255 < 0) = true := decide_eq_true c32
      clear c32
      (first | rw [c32b0] | (simp only [zo, zp]; rw [c32b0]) | skip)
      have H' := Aside0.mk H
      clear H
      go_wp2
      go_meet
      case rel => exact ⟨_, (true), (by first | rfl | (simp; done) | (simp [*]; done)), H', ⟨by first | omega | exact Nat.le_refl _⟩, ⟨by (with_reducible repeat (first | apply Kd.R_alloc | apply Kd.R_drewN | apply Kd.R_drew)); exact zL.out⟩, ⟨by (with_reducible repeat (first | apply Kd.R_alloc | apply Kd.R_drewN | apply Kd.R_drew)); exact zP.out⟩, ⟨by (with_reducible repeat (first | refine zi ?_ _ | refine zk ?_ | refine zh ?_ _)); exact zD.out⟩, ⟨by (with_reducible repeat (first | refine zi ?_ _ | refine zk ?_ | refine zh ?_ _)); exact zC.out⟩, ⟨by repeat (first | (with_reducible first | exact HB.out | apply ze | apply zc | apply zd | refine zj ?_ zH.out | refine zj ?_ zJ.out) | exact HB.out)⟩⟩
     ·rw [if_neg c32] at H
      have c32b0 : decide (t255 < 0) = false := decide_eq_false c32
      clear c32
      (first | rw [c32b0] | (simp only [zo, zp]; rw [c32b0]) | skip)
      replace H := Option.bind_eq_some_iff.mp H
      obtain ⟨t257, A330, H⟩ := H
      replace H : (laws_FnExactDecodeTree.j0 k l0 (!t257) t237 t238 t245 t246) = some r := H
      have A33 := Aside0.mk A330
      clear A330
      have H' := Aside0.mk H
      clear H
      have zsc := zV.out
      have ztc := zS.out
      have zmb : w31.cell? ⟨zF, 0, none⟩ = some (.bool t245) := (zg zC.out 0).trans rfl
      have znb : w31.cell? ⟨zF, 1, none⟩ = some (.slice Ao26 t246.length co26) := (zg zC.out 1).trans rfl
      have zob := zf zC.out 0
      have zpb := zf zC.out 1
      have zqb : w31.cell? ⟨zG, 0, none⟩ = some (.bool t237) := (zg zD.out 0).trans rfl
      have zrb : w31.cell? ⟨zG, 1, none⟩ = some (.slice Ao19 t238.length co19) := (zg zD.out 1).trans rfl
      have zsb := zf zD.out 0
      have ztb := zf zD.out 1
      go_wp2_with (first | (go_at_call 14; (with_reducible refine (laws_eqTreeResult.calls k t245 _ _ t246 t237 _ _ t238 t257 _ ?side1 ?side2 ?side3 ?side4 A33.out).mono ?_); (case side1 => repeat (first | exact (Kd.R_reads' zP.out).2.2 | (with_reducible refine Kd.C_alloc ?_ _) | (with_reducible refine Kd.C_drewN ?_ _) | (with_reducible refine Kd.C_drew ?_))); (case side2 => exact (Kd.R_reads' zP.out).2.1); (case side3 => repeat (first | exact (Kd.R_reads' zL.out).2.2 | (with_reducible refine Kd.C_alloc ?_ _) | (with_reducible refine Kd.C_drewN ?_ _) | (with_reducible refine Kd.C_drew ?_))); (case side4 => exact (Kd.R_reads' zL.out).2.1); rintro e w37 ⟨rfl, hb⟩; have n0_ := Aside0.mk (Kd.R_below (by (with_reducible repeat (first | apply Kd.R_alloc | apply Kd.R_drewN | apply Kd.R_drew)); exact zK.out) hb); have n1_ := Aside0.mk (Kd.R_below (by (with_reducible repeat (first | apply Kd.R_alloc | apply Kd.R_drewN | apply Kd.R_drew)); exact zL.out) hb); have n2_ := Aside0.mk (Kd.R_below (by (with_reducible repeat (first | apply Kd.R_alloc | apply Kd.R_drewN | apply Kd.R_drew)); exact zM.out) hb); have n3_ := Aside0.mk (Kd.R_below (by (with_reducible repeat (first | apply Kd.R_alloc | apply Kd.R_drewN | apply Kd.R_drew)); exact zP.out) hb); have n4_ := Aside0.mk (Kd.R_below (by (with_reducible repeat (first | apply Kd.R_alloc | apply Kd.R_drewN | apply Kd.R_drew)); exact zW.out) hb); have n5_ := Aside0.mk (zt (g := zG) (o := .cells #[.bool t237, .slice Ao19 t238.length co19] 27 (0, 0)) (by (with_reducible repeat (first | refine zi ?_ _ | refine zk ?_ | refine zh ?_ _)); exact zD.out) hb); have n6_ := Aside0.mk (zt (g := zF) (o := .cells #[.bool t245, .slice Ao26 t246.length co26] 27 (0, 0)) (by (with_reducible repeat (first | refine zi ?_ _ | refine zk ?_ | refine zh ?_ _)); exact zC.out) hb); have n7_ := Aside0.mk (zl (by repeat (first | (with_reducible first | exact HB.out | apply ze | apply zc | apply zd | refine zj ?_ zH.out | refine zj ?_ zJ.out) | exact HB.out)) hb); clear zK; clear zL; clear zM; clear zP; clear zW; clear zD; clear zC; clear HB; have zK := n0_; have zL := n1_; have zM := n2_; have zP := n3_; have zW := n4_; have zD := n5_; have zC := n6_; have HB := n7_; clear n0_ n1_ n2_ n3_ n4_ n5_ n6_ n7_; (try clear hb); (try clear hb2); (try clear hk); (try clear hi)))
      go_meet
      case rel => exact ⟨_, (!t257), (by first | rfl | (simp; done) | (simp [*]; done)), H', ⟨by first | omega | exact Nat.le_refl _⟩, ⟨by (with_reducible repeat (first | apply Kd.R_alloc | apply Kd.R_drewN | apply Kd.R_drew)); exact zL.out⟩, ⟨by (with_reducible repeat (first | apply Kd.R_alloc | apply Kd.R_drewN | apply Kd.R_drew)); exact zP.out⟩, ⟨by (with_reducible repeat (first | refine zi ?_ _ | refine zk ?_ | refine zh ?_ _)); exact zD.out⟩, ⟨by (with_reducible repeat (first | refine zi ?_ _ | refine zk ?_ | refine zh ?_ _)); exact zC.out⟩, ⟨by repeat (first | (with_reducible first | exact HB.out | apply ze | apply zc | apply zd | refine zj ?_ zH.out | refine zj ?_ zJ.out) | exact HB.out)⟩⟩
    case rest =>
     clear HC13
     try clear c1
     try clear c2
     try clear c2b0
     try clear c2b1
     try clear p2
     try clear c3
     try clear c8
     try clear c11
     try clear c12
     try clear c13
     try clear c14
     try clear c15
     try clear c16
     try clear c24
     try clear c32
     try clear c32b0
     try clear c34
     try clear zab
     try clear zbb
     try clear zeb
     try clear zfb
     try clear zib
     try clear zjb
     try clear zmb
     try clear znb
     try clear zqb
     try clear zrb
     try clear zcb
     try clear zdb
     try clear zgb
     try clear zhb
     try clear zkb
     try clear zlb
     try clear zob
     try clear zpb
     try clear zsb
     try clear ztb
     obtain ⟨kq, x39_12, rfl, HA, HJ12, zE, zB, zD, zC, HB⟩ := hcut
     cases kq with
     | zero => exact absurd HA.out (by simp [laws_FnExactDecodeTree.j0])
     | succ kj12 =>
      have H := HA.out
      clear HA
      simp only [laws_FnExactDecodeTree.j0] at H
      by_cases c38 : x39_12 = true
      ·subst c38
       have H1 : none = some r := by rw [if_pos rfl] at H; exact H
       clear H
       have H := H1
       clear H1
       exact absurd H (by simp)
      ·replace c38 := Bool.eq_false_iff.mpr c38
       subst c38
       have H1 : ((laws_markTreeResult.f kj12 t245 t246 1).bind fun bt258 => ((laws_heldTreeResult.f kj12 t245 bt258.2 1).bind fun t260 => (if t260 < 0 then none else (if t260 = bt258.1 then ((laws_toByteS.f kj12 l0).bind fun t261 => ((impl_DecodeTree.f kj12 t261).bind fun bt264 => ((laws_eqTreeResult.f kj12 bt264.1 bt264.2 t237 t238).bind fun t269 => (if t269 = true then (some true) else none)))) else none)))) = some r := by rw [if_neg (show ¬ (false = true) by decide)] at H; exact H
       clear H
       have H := H1
       clear H1
       replace H := Option.bind_eq_some_iff.mp H
       obtain ⟨⟨t258, t259⟩, A390, H⟩ := H
       replace H : ((laws_heldTreeResult.f kj12 t245 t259 1).bind fun t260 => (if t260 < 0 then none else (if t260 = t258 then ((laws_toByteS.f kj12 l0).bind fun t261 => ((impl_DecodeTree.f kj12 t261).bind fun bt264 => ((laws_eqTreeResult.f kj12 bt264.1 bt264.2 t237 t238).bind fun t269 => (if t269 = true then (some true) else none)))) else none))) = some r := H
       have A39 := Aside0.mk A390
       clear A390
       replace H := Option.bind_eq_some_iff.mp H
       obtain ⟨t260, A400, H⟩ := H
       replace H : (if t260 < 0 then none else (if t260 = t258 then ((laws_toByteS.f kj12 l0).bind fun t261 => ((impl_DecodeTree.f kj12 t261).bind fun bt264 => ((laws_eqTreeResult.f kj12 bt264.1 bt264.2 t237 t238).bind fun t269 => (if t269 = true then (some true) else none)))) else none)) = some r := H
       have A40 := Aside0.mk A400
       clear A400
       by_cases c41 : t260 < 0
       ·rw [if_pos c41] at H
        have c41b0 : decide (t260 < 0) = true := decide_eq_true c41
        clear c41
        exact absurd H (by simp)
       ·rw [if_neg c41] at H
        have c41b0 : decide (t260 < 0) = false := decide_eq_false c41
        clear c41
        by_cases c47 : t260 = t258
        ·rw [if_pos c47] at H
         have c47b0 : (t260 == t258) = true := beq_iff_eq.mpr c47
         have c47b1 : (t260 != t258) = false := bne_eq_false_iff_eq.mpr c47
         clear c47
         replace H := Option.bind_eq_some_iff.mp H
         obtain ⟨t261, A480, H⟩ := H
         replace H : ((impl_DecodeTree.f kj12 t261).bind fun bt264 => ((laws_eqTreeResult.f kj12 bt264.1 bt264.2 t237 t238).bind fun t269 => (if t269 = true then (some true) else none))) = some r := H
         have A48 := Aside0.mk A480
         clear A480
         replace H := Option.bind_eq_some_iff.mp H
         obtain ⟨⟨t264, t265⟩, A490, H⟩ := H
         replace H : ((laws_eqTreeResult.f kj12 t264 t265 t237 t238).bind fun t269 => (if t269 = true then (some true) else none)) = some r := H
         have A49 := Aside0.mk A490
         clear A490
         replace H := Option.bind_eq_some_iff.mp H
         obtain ⟨t269, A500, H⟩ := H
         replace H : (if t269 = true then (some true) else none) = some r := H
         have A50 := Aside0.mk A500
         clear A500
         by_cases c51 : t269 = true
         ·subst c51
          have H1 : (some true) = some r := by rw [if_pos rfl] at H; exact H
          clear H
          have H := H1
          clear H1
          obtain rfl := Option.some.inj H
          have zwc := zV.out
          have zxc := zS.out
          have zCb : wc.cell? ⟨zF, 0, none⟩ = some (.bool t245) := (zg zC.out 0).trans rfl
          have zDb : wc.cell? ⟨zF, 1, none⟩ = some (.slice Ao26 t246.length co26) := (zg zC.out 1).trans rfl
          have zEb := zf zC.out 0
          have zFb := zf zC.out 1
          go_wp2_with (first | ((with_reducible refine zq (f := 17) rfl ?_); refine zz (some 42) rfl rfl Tryd.func17 (by kernel_rfl) rfl #[.agg #[.bool t245, .slice Ao26 t246.length co26], .int .i64 1] rfl (by (try simp only [List.map_toArray, List.map_cons, List.map_nil]); first | done | rfl | (simp only [List.length_drop, List.length_take]; rfl)) ?_; (with_reducible refine (laws_markTreeResult.calls kj12 t245 (fun k_ => some k_ = (.slice Ao26 t246.length co26 : Value).ownBlock) (.slice Ao26 t246.length co26) t246 1 t258 t259 w _ ?side1 ?side2 A39.out).mono ?_); (case side1 => repeat (first | (with_reducible first | exact HB.out | apply ze | apply zc | apply zd | refine zj ?_ zH.out | refine zj ?_ zJ.out) | exact HB.out)); (case side2 => exact Kd.R_tight rfl zB.out); rintro e w54 ⟨rfl, hy0, hb, hkp⟩; refine ⟨_, rfl, ?_⟩; have n0_ := Aside0.mk (Kd.R_mono (ok' := fun k_ => some k_ ≠ (.slice Ao26 t246.length co26 : Value).ownBlock) (Kd.R_keptB (zE.out) hkp (fun k_ hk_ hs_ => by first | exact (hk_) hs_ | exact hk_.1 hs_ | exact hk_.2 hs_ | exact hk_.1.1 hs_ | exact hk_.1.2 hs_ | exact hk_.2.1 hs_ | exact hk_.2.2 hs_)) (fun k_ hk_ => by first | exact hk_.1 | exact hk_.1 | exact ⟨hk_.1.1, hk_.1.2⟩ | exact ⟨hk_.1.2, hk_.1.1⟩ | exact hk_.1.1 | exact hk_.1.2)); have n1_ := Aside0.mk (Kd.R_reok rfl hy0 (fun k_ e_ => zB.out.1 k_ e_)); have n2_ := Aside0.mk (blk_kept (by (with_reducible repeat (first | refine zi ?_ _ | refine zk ?_ | refine zh ?_ _)); exact zD.out) hkp (fun hs_ => (fun e_ => (Kd.R_ne zB.out zD.out (by decide)) e_) hs_)); have n3_ := Aside0.mk (blk_kept (by (with_reducible repeat (first | refine zi ?_ _ | refine zk ?_ | refine zh ?_ _)); exact zC.out) hkp (fun hs_ => (fun e_ => (Kd.R_ne zB.out zC.out (by decide)) e_) hs_)); have n4_ := Aside0.mk (hb); clear zE; clear zB; clear zD; clear zC; clear HB; have zE := n0_; have zB := n1_; have zD := n2_; have zC := n3_; have HB := n4_; clear n0_ n1_ n2_ n3_ n4_; (try clear hb); (try clear hkp); (try clear hy0); have zGb : w54.cell? ⟨zF, 0, none⟩ = some (.bool t245) := (zg zC.out 0).trans rfl; have zHb : w54.cell? ⟨zF, 1, none⟩ = some (.slice Ao26 t246.length co26) := (zg zC.out 1).trans rfl; have zIb := zf zC.out 0; have zJb := zf zC.out 1) | ((with_reducible refine zq (f := 18) rfl ?_); refine zz (some 45) rfl rfl Tryd.func18 (by kernel_rfl) rfl #[.agg #[.bool t245, .slice Ao26 t259.length co26], .int .i64 1] rfl (by (try simp only [List.map_toArray, List.map_cons, List.map_nil]); first | done | (rw [show t259.length = t246.length from (Kd.R_reads' zB.out).1.symm] <;> rfl) | rfl | (simp only [List.length_drop, List.length_take]; rfl)) ?_; (with_reducible refine (laws_heldTreeResult.calls kj12 t245 _ _ t259 1 t260 _ ?side1 ?side2 A40.out).mono ?_); (case side1 => repeat (first | exact (Kd.R_reads' zB.out).2.2 | (with_reducible refine Kd.C_alloc ?_ _) | (with_reducible refine Kd.C_drewN ?_ _) | (with_reducible refine Kd.C_drew ?_))); (case side2 => rw [show t259.length = t246.length from (Kd.R_reads' zB.out).1.symm]; exact (Kd.R_reads' zB.out).2.1); rintro e w56 ⟨rfl, hb⟩; refine ⟨_, rfl, ?_⟩; have n0_ := Aside0.mk (Kd.R_below (by (with_reducible repeat (first | apply Kd.R_alloc | apply Kd.R_drewN | apply Kd.R_drew)); exact zE.out) hb); have n1_ := Aside0.mk (Kd.R_below (by (with_reducible repeat (first | apply Kd.R_alloc | apply Kd.R_drewN | apply Kd.R_drew)); exact zB.out) hb); have n2_ := Aside0.mk (zt (g := zG) (o := .cells #[.bool t237, .slice Ao19 t238.length co19] 27 (0, 0)) (by (with_reducible repeat (first | refine zi ?_ _ | refine zk ?_ | refine zh ?_ _)); exact zD.out) hb); have n3_ := Aside0.mk (zt (g := zF) (o := .cells #[.bool t245, .slice Ao26 t246.length co26] 27 (0, 0)) (by (with_reducible repeat (first | refine zi ?_ _ | refine zk ?_ | refine zh ?_ _)); exact zC.out) hb); have n4_ := Aside0.mk (zl (by repeat (first | (with_reducible first | exact HB.out | apply ze | apply zc | apply zd | refine zj ?_ zH.out | refine zj ?_ zJ.out) | exact HB.out)) hb); clear zE; clear zB; clear zD; clear zC; clear HB; have zE := n0_; have zB := n1_; have zD := n2_; have zC := n3_; have HB := n4_; clear n0_ n1_ n2_ n3_ n4_; (try clear hb); (try clear hb2); (try clear hk); (try clear hi)) | ((with_reducible refine zq (f := 12) rfl ?_); refine zz (some 52) rfl rfl Tryd.func12 (by kernel_rfl) rfl #[.slice A0 l0.length c0] rfl (by (try simp only [List.map_toArray, List.map_cons, List.map_nil]); first | done | rfl | (simp only [List.length_drop, List.length_take]; rfl)) ?_; (with_reducible refine (laws_toByteS.calls kj12 _ _ l0 t261 _ ?side1 ?side2 A48.out).mono ?_); (case side1 => repeat (first | exact (Kd.C_below HR0.out HB.out) | (with_reducible refine Kd.C_alloc ?_ _) | (with_reducible refine Kd.C_drewN ?_ _) | (with_reducible refine Kd.C_drew ?_))); (case side2 => exact HC0.out); rintro e w57 ⟨v262, rfl, zQ, hb⟩; refine ⟨_, rfl, ?_⟩; have n0_ := Aside0.mk (Kd.R_below (by (with_reducible repeat (first | apply Kd.R_alloc | apply Kd.R_drewN | apply Kd.R_drew)); exact zE.out) hb); have n1_ := Aside0.mk (Kd.R_below (by (with_reducible repeat (first | apply Kd.R_alloc | apply Kd.R_drewN | apply Kd.R_drew)); exact zB.out) hb); have n2_ := Aside0.mk (Kd.R_lower zQ (zm (by repeat (first | (with_reducible first | exact HB.out | apply ze | apply zc | apply zd | refine zj ?_ zH.out | refine zj ?_ zJ.out) | exact HB.out)))); have n3_ := Aside0.mk (zt (g := zG) (o := .cells #[.bool t237, .slice Ao19 t238.length co19] 27 (0, 0)) (by (with_reducible repeat (first | refine zi ?_ _ | refine zk ?_ | refine zh ?_ _)); exact zD.out) hb); have n4_ := Aside0.mk (zt (g := zF) (o := .cells #[.bool t245, .slice Ao26 t246.length co26] 27 (0, 0)) (by (with_reducible repeat (first | refine zi ?_ _ | refine zk ?_ | refine zh ?_ _)); exact zC.out) hb); have n5_ := Aside0.mk (zl (by repeat (first | (with_reducible first | exact HB.out | apply ze | apply zc | apply zd | refine zj ?_ zH.out | refine zj ?_ zJ.out) | exact HB.out)) hb); clear zE; clear zB; clear zD; clear zC; clear HB; have zE := n0_; have zB := n1_; have zO := n2_; have zD := n3_; have zC := n4_; have HB := n5_; clear n0_ n1_ n2_ n3_ n4_ n5_; (try clear hb); (try clear hb2); (try clear hk); (try clear hi); (try clear zQ); obtain ⟨Ao58, co58, eo58⟩ := Kd.R_slice zO.out; subst eo58) | ((with_reducible refine zq (f := 13) rfl ?_); refine zz (some 53) rfl rfl Tryd.func13 (by kernel_rfl) rfl #[.slice Ao58 t261.length co58] rfl (by (try simp only [List.map_toArray, List.map_cons, List.map_nil]); first | done | rfl | (simp only [List.length_drop, List.length_take]; rfl)) ?_; (with_reducible refine (impl_DecodeTree.calls kj12 _ _ t261 t264 t265 _ ?side1 ?side2 A49.out ?globMAX_).mono ?_); (case globMAX_ => exact Go.Proofs.YtjoafknckmoojaaDoorH.GFMAX.below HGMAX_.out (by repeat (first | (with_reducible first | exact HB.out | exact Below.refl _ _ | apply ze | apply zc | apply zd | refine zj ?_ (Aside0.out (by assumption))) | exact HB.out))); (case side1 => repeat (first | exact (Kd.R_reads' zO.out).2.2 | (with_reducible refine Kd.C_alloc ?_ _) | (with_reducible refine Kd.C_drewN ?_ _) | (with_reducible refine Kd.C_drew ?_))); (case side2 => exact (Kd.R_reads' zO.out).2.1); rintro e w59 ⟨v266, rfl, zQ, hb⟩; refine ⟨_, rfl, ?_⟩; have n0_ := Aside0.mk (Kd.R_elder' (by (with_reducible repeat (first | apply Kd.R_alloc | apply Kd.R_drewN | apply Kd.R_drew)); exact zE.out) (Kd.R_base zQ) hb); have n1_ := Aside0.mk (Kd.R_elder' (by (with_reducible repeat (first | apply Kd.R_alloc | apply Kd.R_drewN | apply Kd.R_drew)); exact zB.out) (Kd.R_base zQ) hb); have n2_ := Aside0.mk (Kd.R_below (by (with_reducible repeat (first | apply Kd.R_alloc | apply Kd.R_drewN | apply Kd.R_drew)); exact zO.out) hb); have n3_ := Aside0.mk (Kd.R_lower (Kd.R_new' (Kd.R_new' zQ (Kd.R_lt (by (with_reducible repeat (first | apply Kd.R_alloc | apply Kd.R_drewN | apply Kd.R_drew)); exact zE.out))) (Kd.R_lt (by (with_reducible repeat (first | apply Kd.R_alloc | apply Kd.R_drewN | apply Kd.R_drew)); exact zB.out))) (zm (by repeat (first | (with_reducible first | exact HB.out | apply ze | apply zc | apply zd | refine zj ?_ zH.out | refine zj ?_ zJ.out) | exact HB.out)))); have n4_ := Aside0.mk (zt (g := zG) (o := .cells #[.bool t237, .slice Ao19 t238.length co19] 27 (0, 0)) (by (with_reducible repeat (first | refine zi ?_ _ | refine zk ?_ | refine zh ?_ _)); exact zD.out) hb); have n5_ := Aside0.mk (zt (g := zF) (o := .cells #[.bool t245, .slice Ao26 t246.length co26] 27 (0, 0)) (by (with_reducible repeat (first | refine zi ?_ _ | refine zk ?_ | refine zh ?_ _)); exact zC.out) hb); have n6_ := Aside0.mk (zl (by repeat (first | (with_reducible first | exact HB.out | apply ze | apply zc | apply zd | refine zj ?_ zH.out | refine zj ?_ zJ.out) | exact HB.out)) hb); clear zE; clear zB; clear zO; clear zD; clear zC; clear HB; have zE := n0_; have zB := n1_; have zO := n2_; have zR := n3_; have zD := n4_; have zC := n5_; have HB := n6_; clear n0_ n1_ n2_ n3_ n4_ n5_ n6_; (try clear hb); (try clear hb2); (try clear hk); (try clear hi); (try clear zQ)) | ((with_reducible refine zv (N := 9) rfl ?_); refine zw ?hg (N := 9) ?hd (cs := #[.bool false, .slice none 0 0]) (t := 27) ?hr ?_; (case hd => rfl); (case hg => rfl); (case hr => first | (go_simp; done) | (go_simp; rfl)); intro zI hg w60 hbox hb; have n0_ := Aside0.mk (Kd.R_below (by (with_reducible repeat (first | apply Kd.R_alloc | apply Kd.R_drewN | apply Kd.R_drew)); exact zE.out) hb); have n1_ := Aside0.mk (Kd.R_below (by (with_reducible repeat (first | apply Kd.R_alloc | apply Kd.R_drewN | apply Kd.R_drew)); exact zB.out) hb); have n2_ := Aside0.mk (Kd.R_below (by (with_reducible repeat (first | apply Kd.R_alloc | apply Kd.R_drewN | apply Kd.R_drew)); exact zO.out) hb); have n3_ := Aside0.mk (Kd.R_below (by (with_reducible repeat (first | apply Kd.R_alloc | apply Kd.R_drewN | apply Kd.R_drew)); exact zR.out) hb); have n4_ := Aside0.mk (zt (g := zG) (o := .cells #[.bool t237, .slice Ao19 t238.length co19] 27 (0, 0)) (by (with_reducible repeat (first | refine zi ?_ _ | refine zk ?_ | refine zh ?_ _)); exact zD.out) hb); have n5_ := Aside0.mk (zt (g := zF) (o := .cells #[.bool t245, .slice Ao26 t246.length co26] 27 (0, 0)) (by (with_reducible repeat (first | refine zi ?_ _ | refine zk ?_ | refine zh ?_ _)); exact zC.out) hb); have n6_ := Aside0.mk (zl (by repeat (first | (with_reducible first | exact HB.out | apply ze | apply zc | apply zd | refine zj ?_ zH.out | refine zj ?_ zJ.out) | exact HB.out)) hb); have n7_ := Aside0.mk (hbox); have n8_ := Aside0.mk ((by rw [hg]; exact (zm (by repeat (first | (with_reducible first | exact HB.out | apply ze | apply zc | apply zd | refine zj ?_ zH.out | refine zj ?_ zJ.out) | exact HB.out))) : w.heap.size ≤ zI)); have n9_ := Aside0.mk ((by rw [hg]; exact (zm (by repeat (first | (with_reducible first | exact HB.out | apply ze | apply zc | apply zd | refine zj ?_ zH.out | refine zj ?_ zJ.out) | exact HB.out))) : w.heap.size ≤ zI)); have n10_ := Aside0.mk ((by rw [hg]; exact Nat.ne_of_lt (zy (g := zG) (o := .cells #[.bool t237, .slice Ao19 t238.length co19] 27 (0, 0)) (by (with_reducible repeat (first | refine zi ?_ _ | refine zk ?_ | refine zh ?_ _)); exact zD.out)) : zG ≠ zI)); have n11_ := Aside0.mk ((by rw [hg]; exact Nat.ne_of_gt (zy (g := zG) (o := .cells #[.bool t237, .slice Ao19 t238.length co19] 27 (0, 0)) (by (with_reducible repeat (first | refine zi ?_ _ | refine zk ?_ | refine zh ?_ _)); exact zD.out)) : zI ≠ zG)); have n12_ := Aside0.mk ((by rw [hg]; exact Nat.ne_of_lt (zy (g := zF) (o := .cells #[.bool t245, .slice Ao26 t246.length co26] 27 (0, 0)) (by (with_reducible repeat (first | refine zi ?_ _ | refine zk ?_ | refine zh ?_ _)); exact zC.out)) : zF ≠ zI)); have n13_ := Aside0.mk ((by rw [hg]; exact Nat.ne_of_gt (zy (g := zF) (o := .cells #[.bool t245, .slice Ao26 t246.length co26] 27 (0, 0)) (by (with_reducible repeat (first | refine zi ?_ _ | refine zk ?_ | refine zh ?_ _)); exact zC.out)) : zI ≠ zF)); clear zE; clear zB; clear zO; clear zR; clear zD; clear zC; clear HB; have zE := n0_; have zB := n1_; have zO := n2_; have zR := n3_; have zD := n4_; have zC := n5_; have HB := n6_; have zN := n7_; have GW268 := n8_; have zZ := n9_; have zT := n10_; have zX := n11_; have zU := n12_; have zY := n13_; clear n0_ n1_ n2_ n3_ n4_ n5_ n6_ n7_ n8_ n9_ n10_ n11_ n12_ n13_; clear hb hbox hg; have zyc := zX.out; have zzc := zT.out; have zAc := zY.out; have zBc := zU.out; have zKb : w60.cell? ⟨zI, 0, none⟩ = some (.bool false) := (zg zN.out 0).trans rfl; have zLb : w60.cell? ⟨zI, 1, none⟩ = some (.slice none 0 0) := (zg zN.out 1).trans rfl; have zMb := zf zN.out 0; have zNb := zf zN.out 1; obtain ⟨Ao64, co64, eo64⟩ := Kd.R_slice zR.out; subst eo64; have zOb : w60.cell? ⟨zG, 0, none⟩ = some (.bool t237) := (zg zD.out 0).trans rfl; have zPb : w60.cell? ⟨zG, 1, none⟩ = some (.slice Ao19 t238.length co19) := (zg zD.out 1).trans rfl; have zQb := zf zD.out 0; have zRb := zf zD.out 1) | ((with_reducible refine zq (f := 14) rfl ?_); refine zz (some 56) rfl rfl Tryd.func14 (by kernel_rfl) rfl #[.agg #[.bool t264, .slice Ao64 t265.length co64], .agg #[.bool t237, .slice Ao19 t238.length co19]] rfl (by (try simp only [List.map_toArray, List.map_cons, List.map_nil]); first | done | rfl | (simp only [List.length_drop, List.length_take]; rfl)) ?_; (with_reducible refine (laws_eqTreeResult.calls kj12 t264 _ _ t265 t237 _ _ t238 true _ ?side1 ?side2 ?side3 ?side4 A50.out).mono ?_); (case side1 => refine (Kd.R_reads' (e := 92) (base := w.heap.size) (ok := fun k_ => ((True ∧ some k_ ≠ (.slice Ao19 t238.length co19 : Value).ownBlock) ∧ some k_ ≠ (.slice Ao26 t246.length co26 : Value).ownBlock)) (n := t265.length) (c := co64) ?_).2.2; exact (by (with_reducible repeat (first | apply Kd.R_alloc | apply Kd.R_drewN | apply Kd.R_drew)); exact (Kd.R_mono (Kd.R_far (p := ⟨zI, 1, none⟩) (Kd.R_far (p := ⟨zI, 0, none⟩) (Kd.R_types zR.out zN.out (by decide)) (fun _ hk => hk.2) (.bool t264)) (fun _ hk => hk.2) (.slice Ao64 t265.length co64)) (fun _ h_ => h_.1)))); (case side2 => exact (Kd.R_reads' zR.out).2.1); (case side3 => refine (Kd.R_reads' (e := 92) (base := w.heap.size) (ok := fun k_ => (some k_ ≠ (.slice Ao26 t246.length co26 : Value).ownBlock ∧ some k_ ≠ (.slice Ao64 t265.length co64 : Value).ownBlock)) (n := t238.length) (c := co19) ?_).2.2; exact (by (with_reducible repeat (first | apply Kd.R_alloc | apply Kd.R_drewN | apply Kd.R_drew)); exact (Kd.R_mono (Kd.R_far (p := ⟨zI, 1, none⟩) (Kd.R_far (p := ⟨zI, 0, none⟩) (Kd.R_types zE.out zN.out (by decide)) (fun _ hk => hk.2) (.bool t264)) (fun _ hk => hk.2) (.slice Ao64 t265.length co64)) (fun _ h_ => h_.1)))); (case side4 => exact (Kd.R_reads' zE.out).2.1); rintro e w66 ⟨rfl, hb⟩; refine ⟨_, rfl, ?_⟩; have n0_ := Aside0.mk (Kd.R_below (by (with_reducible repeat (first | apply Kd.R_alloc | apply Kd.R_drewN | apply Kd.R_drew)); exact (Kd.R_mono (Kd.R_far (p := ⟨zI, 1, none⟩) (Kd.R_far (p := ⟨zI, 0, none⟩) (Kd.R_types zE.out zN.out (by decide)) (fun _ hk => hk.2) (.bool t264)) (fun _ hk => hk.2) (.slice Ao64 t265.length co64)) (fun _ h_ => h_.1))) hb); have n1_ := Aside0.mk (Kd.R_below (by (with_reducible repeat (first | apply Kd.R_alloc | apply Kd.R_drewN | apply Kd.R_drew)); exact (Kd.R_mono (Kd.R_far (p := ⟨zI, 1, none⟩) (Kd.R_far (p := ⟨zI, 0, none⟩) (Kd.R_types zB.out zN.out (by decide)) (fun _ hk => hk.2) (.bool t264)) (fun _ hk => hk.2) (.slice Ao64 t265.length co64)) (fun _ h_ => h_.1))) hb); have n2_ := Aside0.mk (Kd.R_below (by (with_reducible repeat (first | apply Kd.R_alloc | apply Kd.R_drewN | apply Kd.R_drew)); exact (Kd.R_mono (Kd.R_far (p := ⟨zI, 1, none⟩) (Kd.R_far (p := ⟨zI, 0, none⟩) (Kd.R_types zO.out zN.out (by decide)) (fun _ hk => hk.2) (.bool t264)) (fun _ hk => hk.2) (.slice Ao64 t265.length co64)) (fun _ h_ => h_.1))) hb); have n3_ := Aside0.mk (Kd.R_below (by (with_reducible repeat (first | apply Kd.R_alloc | apply Kd.R_drewN | apply Kd.R_drew)); exact (Kd.R_mono (Kd.R_far (p := ⟨zI, 1, none⟩) (Kd.R_far (p := ⟨zI, 0, none⟩) (Kd.R_types zR.out zN.out (by decide)) (fun _ hk => hk.2) (.bool t264)) (fun _ hk => hk.2) (.slice Ao64 t265.length co64)) (fun _ h_ => h_.1))) hb); have n4_ := Aside0.mk (zt (g := zG) (o := .cells #[.bool t237, .slice Ao19 t238.length co19] 27 (0, 0)) (by (with_reducible repeat (first | refine zi ?_ _ | refine zk ?_ | refine zh ?_ _)); refine blk_far ?_ zT.out _; (with_reducible repeat (first | refine zi ?_ _ | refine zk ?_ | refine zh ?_ _)); refine blk_far ?_ zT.out _; (with_reducible repeat (first | refine zi ?_ _ | refine zk ?_ | refine zh ?_ _)); exact zD.out) hb); have n5_ := Aside0.mk (zt (g := zF) (o := .cells #[.bool t245, .slice Ao26 t246.length co26] 27 (0, 0)) (by (with_reducible repeat (first | refine zi ?_ _ | refine zk ?_ | refine zh ?_ _)); refine blk_far ?_ zU.out _; (with_reducible repeat (first | refine zi ?_ _ | refine zk ?_ | refine zh ?_ _)); refine blk_far ?_ zU.out _; (with_reducible repeat (first | refine zi ?_ _ | refine zk ?_ | refine zh ?_ _)); exact zC.out) hb); have n6_ := Aside0.mk (zt (g := zI) (o := .cells #[.bool t264, .slice Ao64 t265.length co64] 27 (0, 0)) (by (with_reducible repeat (first | refine zi ?_ _ | refine zk ?_ | refine zh ?_ _)); refine zx (cs := #[.bool t264, .slice none 0 0]) ?_ 1 _ rfl; (with_reducible repeat (first | refine zi ?_ _ | refine zk ?_ | refine zh ?_ _)); refine zx (cs := #[.bool false, .slice none 0 0]) ?_ 0 _ rfl; (with_reducible repeat (first | refine zi ?_ _ | refine zk ?_ | refine zh ?_ _)); exact zN.out) hb); have n7_ := Aside0.mk (zl (by repeat (first | (with_reducible first | exact HB.out | apply ze | apply zc | apply zd | refine zj ?_ zH.out | refine zj ?_ zJ.out | refine zj ?_ zZ.out) | exact HB.out)) hb); clear zE; clear zB; clear zO; clear zR; clear zD; clear zC; clear zN; clear HB; have zE := n0_; have zB := n1_; have zO := n2_; have zR := n3_; have zD := n4_; have zC := n5_; have zN := n6_; have HB := n7_; clear n0_ n1_ n2_ n3_ n4_ n5_ n6_ n7_; (try clear hb); (try clear hb2); (try clear hk); (try clear hi)))
          go_ret
          exact ⟨by first | rfl | (simp [errW_none, errW_some] <;> rfl) | (simp [*, errW_none, errW_some] <;> rfl), by repeat (first | (with_reducible first | exact HB.out | apply ze | apply zc | apply zd | refine zj ?_ zH.out | refine zj ?_ zJ.out | refine zj ?_ zZ.out) | exact HB.out)⟩
         ·replace c51 := Bool.eq_false_iff.mpr c51
          subst c51
          have H1 : none = some r := by rw [if_neg (show ¬ (false = true) by decide)] at H; exact H
          clear H
          have H := H1
          clear H1
          exact absurd H (by simp)
        ·rw [if_neg c47] at H
         have c47b0 : (t260 == t258) = false := beq_eq_false_iff_ne.mpr c47
         have c47b1 : (t260 != t258) = true := bne_iff_ne.mpr c47
         exact absurd H (by simp)
   ·replace c11 := Bool.eq_false_iff.mpr c11
    subst c11
    have H1 : none = some r := by rw [if_neg (show ¬ (false = true) by decide)] at H; exact H
    clear H
    have H := H1
    clear H1
    exact absurd H (by simp)
  ·replace c8 := Bool.eq_false_iff.mpr c8
   subst c8
   have H1 : none = some r := by rw [if_neg (show ¬ (false = true) by decide)] at H; exact H
   clear H
   have H := H1
   clear H1
   exact absurd H (by simp)

/-- THE ONE PURE STATEMENT of laws_FnExactDecodeTree. -/
def laws_FnExactDecodeTree.Pure : Prop := ∀ (l0 : List Int), (l0.length ≤ maxLen ∧ ∀ z0_ ∈ l0, (Lit.int .u8 z0_).wf = true) → ∃ k, laws_FnExactDecodeTree.f k l0 = some true

end Go.Proofs.YtjoafknckmoojaaDoor.GFnExactDecodeTree
