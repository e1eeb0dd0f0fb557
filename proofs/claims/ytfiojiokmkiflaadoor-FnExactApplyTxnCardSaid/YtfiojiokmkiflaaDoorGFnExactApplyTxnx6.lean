/- Written by give.py, a program of this session, that runs the kit's print and lays contracts proved by hand beside it. -/
import Derived.Test.YtfiojiokmkiflaaDoorGFnExactApplyTxnx0
import Derived.Test.YtfiojiokmkiflaaDoorHStep
import Derived.Test.YtfiojiokmkiflaaDoorGFnExactApplyTxnx2
import Derived.Test.YtfiojiokmkiflaaDoorGFnExactApplyTxnx3
import Derived.Test.YtfiojiokmkiflaaDoorGFnExactApplyTxnx5
namespace Go.Proofs.YtfiojiokmkiflaaDoor.GFnExactApplyTxn
open Go.Proofs.YtfiojiokmkiflaaDoorH (pu po ta pt ps p0 p1)
open Go.RowKit Go.Proofs.YtfiojiokmkiflaaDoorW.PrintWords Go.Proofs.YtfiojiokmkiflaaDoorW.PrintLast Go.Proofs.YtfiojiokmkiflaaDoorW.PrintMore
attribute [local go_sem] max2_int min2_int max_two min_two max_three min_three max_four min_four
attribute [local go_sem high] Go.Proofs.YtfiojiokmkiflaaDoorH.str_leq Go.Proofs.YtfiojiokmkiflaaDoorH.str_geq Go.Proofs.YtfiojiokmkiflaaDoorH.str_gtr   -- for this text's walks alone
set_option linter.unusedVariables false
set_option linter.unusedSimpArgs false

def laws_FnExactApplyTxn.j0 : Nat → Bool → List (S171) → Int → List (S174) → List (S77) → List (S77) → Option (Bool)
 | 0, _, _, _, _, _, _ => none
 | k + 1, x63, x320000, x321000, x321001, x334000, x347000 => if x63 = true then none else ((laws_markTree.f k x347000 1).bind fun bt362 => ((laws_heldTree.f k bt362.2 1).bind fun t364 => (if t364 < 0 then none else (if t364 = bt362.1 then ((laws_toTree.f k x320000).bind fun t365 => ((laws_toTxn.f k x321000 x321001).bind fun bt368 => ((impl_ApplyTxn.f k t365 bt368.1 bt368.2).bind fun t372 => ((laws_eqTree.f k t372 x334000).bind fun t376 => (if t376 = true then (some true) else none))))) else none))))
def laws_FnExactApplyTxn.f (k : Nat) (l0_0 : List (S171)) (a1_0 : Int) (l1_1 : List (S174)) : Option (Bool) := (laws_szTree.f k l0_0 1048576).bind fun t321 => (if t321 < 0 then (some true) else ((laws_szTxn.f k a1_0 l1_1 t321).bind fun t322 => (if t322 < 0 then (some true) else ((laws_toTree.f k l0_0).bind fun t323 => ((laws_toTxn.f k a1_0 l1_1).bind fun bt326 => ((spec_ApplyTxn.f k t323 bt326.1 bt326.2).bind fun t330 => ((laws_toTree.f k l0_0).bind fun t334 => ((laws_toTxn.f k a1_0 l1_1).bind fun bt338 => ((impl_ApplyTxn.f k t334 bt338.1 bt338.2).bind fun t343 => ((laws_eqTree.f k t343 t330).bind fun t347 => (if t347 = true then ((laws_toTree.f k l0_0).bind fun t348 => ((laws_eqTree.f k t334 t348).bind fun t351 => (if t351 = true then ((laws_toTxn.f k a1_0 l1_1).bind fun bt352 => ((laws_eqTxn.f k bt338.1 bt338.2 bt352.1 bt352.2).bind fun t356 => (if t356 = true then ((laws_markTree.f k t334 1).bind fun bt357 => ((laws_markTxn.f k bt338.1 bt338.2 bt357.1).bind fun bt359 => (if bt359.1 < 0 then (laws_FnExactApplyTxn.j0 k true l0_0 a1_0 l1_1 t330 t343) else ((laws_eqTree.f k t343 t330).bind fun t361 => (laws_FnExactApplyTxn.j0 k (!t361) l0_0 a1_0 l1_1 t330 t343))))) else none))) else none))) else none)))))))))))
theorem laws_FnExactApplyTxn.mono_l : ∀ k, (∀ y0 y1 y2 y3 y4 y5, LeO (laws_FnExactApplyTxn.j0 k y0 y1 y2 y3 y4 y5) (laws_FnExactApplyTxn.j0 (k + 1) y0 y1 y2 y3 y4 y5))
 | 0 => fun _ _ _ _ _ _ r h => by simp [laws_FnExactApplyTxn.j0] at h
 | k + 1 => by
  have ih0 := laws_FnExactApplyTxn.mono_l k
  ·intro y0 y1 y2 y3 y4 y5
   unfold laws_FnExactApplyTxn.j0
   repeat' first
   | (with_reducible exact ih0 _ _ _ _ _ _)
   | (with_reducible exact impl_ApplyTxn.mono _ _ _ _)
   | (with_reducible exact laws_eqTree.mono _ _ _)
   | (with_reducible exact laws_eqTxn.mono _ _ _ _ _)
   | (with_reducible exact laws_heldTree.mono _ _ _)
   | (with_reducible exact laws_markTree.mono _ _ _)
   | (with_reducible exact laws_markTxn.mono _ _ _ _)
   | (with_reducible exact laws_szTree.mono _ _ _)
   | (with_reducible exact laws_szTxn.mono _ _ _ _)
   | (with_reducible exact laws_toTree.mono _ _)
   | (with_reducible exact laws_toTxn.mono _ _ _)
   | (with_reducible exact spec_ApplyTxn.mono _ _ _ _)
   | (with_reducible exact LeO.refl _)
   | (with_reducible exact LeO.none _)
   | (with_reducible refine LeO.ite ?_ ?_)
   | (with_reducible refine LeO.bind ?_ (fun _ => ?_))
   | exact ih0 _ _ _ _ _ _
   | exact impl_ApplyTxn.mono _ _ _ _
   | exact laws_eqTree.mono _ _ _
   | exact laws_eqTxn.mono _ _ _ _ _
   | exact laws_heldTree.mono _ _ _
   | exact laws_markTree.mono _ _ _
   | exact laws_markTxn.mono _ _ _ _
   | exact laws_szTree.mono _ _ _
   | exact laws_szTxn.mono _ _ _ _
   | exact laws_toTree.mono _ _
   | exact laws_toTxn.mono _ _ _
   | exact spec_ApplyTxn.mono _ _ _ _
   | exact LeO.none _
   | refine LeO.ite ?_ ?_
   | refine LeO.bind ?_ (fun _ => ?_)
theorem laws_FnExactApplyTxn.mono : ∀ a0 a1 a2 k, LeO (laws_FnExactApplyTxn.f k a0 a1 a2) (laws_FnExactApplyTxn.f (k + 1) a0 a1 a2) := by
 intro a0 a1 a2 k
 have ih0 := laws_FnExactApplyTxn.mono_l k
 unfold laws_FnExactApplyTxn.f
 repeat' first
   | (with_reducible exact ih0 _ _ _ _ _ _)
   | (with_reducible exact impl_ApplyTxn.mono _ _ _ _)
   | (with_reducible exact laws_eqTree.mono _ _ _)
   | (with_reducible exact laws_eqTxn.mono _ _ _ _ _)
   | (with_reducible exact laws_heldTree.mono _ _ _)
   | (with_reducible exact laws_markTree.mono _ _ _)
   | (with_reducible exact laws_markTxn.mono _ _ _ _)
   | (with_reducible exact laws_szTree.mono _ _ _)
   | (with_reducible exact laws_szTxn.mono _ _ _ _)
   | (with_reducible exact laws_toTree.mono _ _)
   | (with_reducible exact laws_toTxn.mono _ _ _)
   | (with_reducible exact spec_ApplyTxn.mono _ _ _ _)
   | (with_reducible exact LeO.refl _)
   | (with_reducible exact LeO.none _)
   | (with_reducible refine LeO.ite ?_ ?_)
   | (with_reducible refine LeO.bind ?_ (fun _ => ?_))
   | exact ih0 _ _ _ _ _ _
   | exact impl_ApplyTxn.mono _ _ _ _
   | exact laws_eqTree.mono _ _ _
   | exact laws_eqTxn.mono _ _ _ _ _
   | exact laws_heldTree.mono _ _ _
   | exact laws_markTree.mono _ _ _
   | exact laws_markTxn.mono _ _ _ _
   | exact laws_szTree.mono _ _ _
   | exact laws_szTxn.mono _ _ _ _
   | exact laws_toTree.mono _ _
   | exact laws_toTxn.mono _ _ _
   | exact spec_ApplyTxn.mono _ _ _ _
   | exact LeO.none _
   | refine LeO.ite ?_ ?_
   | refine LeO.bind ?_ (fun _ => ?_)
set_option maxHeartbeats 8000000 in
set_option maxRecDepth 100000 in
theorem laws_FnExactApplyTxn.calls (k : Nat) (A0_0 : Option Addr) (c0_0 : Nat) (l0_0 : List (S171)) (a1_0 : Int) (A1_1 : Option Addr) (c1_1 : Nat) (l1_1 : List (S174)) (r : Bool) (w : World) (hr0_0 : Kd.C k171 w A0_0 l0_0.length l0_0) (hc0_0 : l0_0.length ≤ c0_0) (hr1_1 : Kd.C k174 w A1_1 l1_1.length l1_1) (hc1_1 : l1_1.length ≤ c1_1) (h : laws_FnExactApplyTxn.f k l0_0 a1_0 l1_1 = some r) (hGMAX_ : Go.Proofs.YtfiojiokmkiflaaDoorH.GFMAX w) :
  Calls Tryd.prog 4 #[.agg #[.slice A0_0 l0_0.length c0_0], .agg #[.int .i64 a1_0, .slice A1_1 l1_1.length c1_1]] w fun e w' => e = .returned (.bool r) ∧ Below w.heap.size w w' := by
 have HGMAX_ := Aside0.mk hGMAX_
 clear hGMAX_
 have hu45 := Tryd.underlying45
 have hu48 := Tryd.underlying48
 have hu25 := Tryd.underlying25
 have hu55 := Tryd.underlying55
 have HR0_0 := Aside0.mk hr0_0
 have HC0_0 := Aside0.mk hc0_0
 clear hr0_0 hc0_0
 have HR1_1 := Aside0.mk hr1_1
 have HC1_1 := Aside0.mk hc1_1
 clear hr1_1 hc1_1
 have HB := Aside0.mk (Below.refl w.heap.size w)
 have H : ((laws_szTree.f k l0_0 1048576).bind fun t321 => (if t321 < 0 then (some true) else ((laws_szTxn.f k a1_0 l1_1 t321).bind fun t322 => (if t322 < 0 then (some true) else ((laws_toTree.f k l0_0).bind fun t323 => ((laws_toTxn.f k a1_0 l1_1).bind fun bt326 => ((spec_ApplyTxn.f k t323 bt326.1 bt326.2).bind fun t330 => ((laws_toTree.f k l0_0).bind fun t334 => ((laws_toTxn.f k a1_0 l1_1).bind fun bt338 => ((impl_ApplyTxn.f k t334 bt338.1 bt338.2).bind fun t343 => ((laws_eqTree.f k t343 t330).bind fun t347 => (if t347 = true then ((laws_toTree.f k l0_0).bind fun t348 => ((laws_eqTree.f k t334 t348).bind fun t351 => (if t351 = true then ((laws_toTxn.f k a1_0 l1_1).bind fun bt352 => ((laws_eqTxn.f k bt338.1 bt338.2 bt352.1 bt352.2).bind fun t356 => (if t356 = true then ((laws_markTree.f k t334 1).bind fun bt357 => ((laws_markTxn.f k bt338.1 bt338.2 bt357.1).bind fun bt359 => (if bt359.1 < 0 then (laws_FnExactApplyTxn.j0 k true l0_0 a1_0 l1_1 t330 t343) else ((laws_eqTree.f k t343 t330).bind fun t361 => (laws_FnExactApplyTxn.j0 k (!t361) l0_0 a1_0 l1_1 t330 t343))))) else none))) else none))) else none)))))))))))) = some r := h
 clear h
 replace H := Option.bind_eq_some_iff.mp H
 obtain ⟨t321, A30, H⟩ := H
 try dsimp only at H
 have A3 := Aside0.mk A30
 clear A30
 by_cases c4 : t321 < 0
 ·rw [if_pos c4] at H
  have c4b0 : decide (t321 < 0) = true := decide_eq_true c4
  clear c4
  obtain rfl := Option.some.inj H
  go_enter Tryd.func4, Tryd.ntmps4
  go_wp2_with (first | ((with_reducible refine zu (N := 2) rfl ?_); refine zy ?hg (N := 2) ?hd (cs := #[.slice A0_0 l0_0.length c0_0]) (t := 45) ?hr ?_; (case hd => rfl); (case hg => rfl); (case hr => first | (go_simp; done) | (go_simp; rfl)); intro zE hg w5 hbox hb; have n0_ := Aside0.mk (zn (by exact bl HB.out) hb); have n1_ := Aside0.mk (hbox); have n2_ := Aside0.mk ((by rw [hg]; exact (zm (by exact bl HB.out)) : w.heap.size ≤ zE)); have n3_ := Aside0.mk ((by rw [hg]; exact (zm (by exact bl HB.out)) : w.heap.size ≤ zE)); clear HB; have HB := n0_; have zB := n1_; have GW319 := n2_; have zP := n3_; clear n0_ n1_ n2_ n3_; clear hb hbox hg) | ((with_reducible refine zu (N := 3) rfl ?_); refine zy ?hg (N := 3) ?hd (cs := #[.int .i64 a1_0, .slice A1_1 l1_1.length c1_1]) (t := 48) ?hr ?_; (case hd => rfl); (case hg => rfl); (case hr => first | (go_simp; done) | (go_simp; rfl)); intro zF hg w6 hbox hb; have n0_ := Aside0.mk (zi (g := zE) (o := .cells #[.slice A0_0 l0_0.length c0_0] 45 (0, 0)) (BL zB.out) hb); have n1_ := Aside0.mk (zn (by exact bl HB.out) hb); have n2_ := Aside0.mk (hbox); have n3_ := Aside0.mk ((by rw [hg]; exact (zm (by exact bl HB.out)) : w.heap.size ≤ zF)); have n4_ := Aside0.mk ((by rw [hg]; exact (zm (by exact bl HB.out)) : w.heap.size ≤ zF)); have n5_ := Aside0.mk ((by rw [hg]; exact Nat.ne_of_lt (zt (g := zE) (o := .cells #[.slice A0_0 l0_0.length c0_0] 45 (0, 0)) (BL zB.out)) : zE ≠ zF)); have n6_ := Aside0.mk ((by rw [hg]; exact Nat.ne_of_gt (zt (g := zE) (o := .cells #[.slice A0_0 l0_0.length c0_0] 45 (0, 0)) (BL zB.out)) : zF ≠ zE)); clear zB; clear HB; have zB := n0_; have HB := n1_; have zA := n2_; have GW320 := n3_; have zQ := n4_; have zBb := n5_; have zCb := n6_; clear n0_ n1_ n2_ n3_ n4_ n5_ n6_; clear hb hbox hg; have zBe := zBb.out; have zCe := zCb.out; have zXc : w6.cell? ⟨zE, 0, none⟩ = some (.slice A0_0 l0_0.length c0_0) := (zc zB.out 0).trans rfl; have zYc := ze zB.out 0) | ((with_reducible refine zr (f := 16) rfl ?_); refine zz (some 16) rfl rfl Tryd.func16 (by kernel_rfl) rfl #[.agg #[.slice A0_0 l0_0.length c0_0], .int .i64 1048576] rfl (by (try simp only [List.map_toArray, List.map_cons, List.map_nil]); first | done | rfl) ?_; (with_reducible refine (laws_szTree.calls k _ _ l0_0 1048576 t321 _ ?side1 ?side2 A3.out).mono ?_); (case side1 => repeat (first | exact (Kd.C_below HR0_0.out HB.out) | (with_reducible refine Kd.C_alloc ?_ _) | (with_reducible refine Kd.C_drewN ?_ _) | (with_reducible refine Kd.C_drew ?_))); (case side2 => exact HC0_0.out); rintro e w9 ⟨rfl, hb⟩; refine ⟨_, rfl, ?_⟩; have n0_ := Aside0.mk (zi (g := zE) (o := .cells #[.slice A0_0 l0_0.length c0_0] 45 (0, 0)) (BL zB.out) hb); have n1_ := Aside0.mk (zi (g := zF) (o := .cells #[.int .i64 a1_0, .slice A1_1 l1_1.length c1_1] 48 (0, 0)) (BL zA.out) hb); have n2_ := Aside0.mk (zn (by exact bl HB.out) hb); clear zB; clear zA; clear HB; have zB := n0_; have zA := n1_; have HB := n2_; clear n0_ n1_ n2_; (try clear hb); (try clear hb2); (try clear hk); (try clear hi)))
  go_ret
  exact ⟨by first | rfl | (simp [*] <;> rfl), by repeat (first | (with_reducible first | exact HB.out | apply zh | apply zf | apply zg | refine zd ?_ zP.out | refine zd ?_ zQ.out) | exact HB.out)⟩
 ·rw [if_neg c4] at H
  have c4b0 : decide (t321 < 0) = false := decide_eq_false c4
  clear c4
  replace H := Option.bind_eq_some_iff.mp H
  obtain ⟨t322, A100, H⟩ := H
  try dsimp only at H
  have A10 := Aside0.mk A100
  clear A100
  by_cases c11 : t322 < 0
  ·rw [if_pos c11] at H
   have c11b0 : decide (t322 < 0) = true := decide_eq_true c11
   clear c11
   obtain rfl := Option.some.inj H
   go_enter Tryd.func4, Tryd.ntmps4
   go_wp2_with (first | ((with_reducible refine zu (N := 2) rfl ?_); refine zy ?hg (N := 2) ?hd (cs := #[.slice A0_0 l0_0.length c0_0]) (t := 45) ?hr ?_; (case hd => rfl); (case hg => rfl); (case hr => first | (go_simp; done) | (go_simp; rfl)); intro zE hg w12 hbox hb; have n0_ := Aside0.mk (zn (by exact bl HB.out) hb); have n1_ := Aside0.mk (hbox); have n2_ := Aside0.mk ((by rw [hg]; exact (zm (by exact bl HB.out)) : w.heap.size ≤ zE)); have n3_ := Aside0.mk ((by rw [hg]; exact (zm (by exact bl HB.out)) : w.heap.size ≤ zE)); clear HB; have HB := n0_; have zB := n1_; have GW319 := n2_; have zP := n3_; clear n0_ n1_ n2_ n3_; clear hb hbox hg) | ((with_reducible refine zu (N := 3) rfl ?_); refine zy ?hg (N := 3) ?hd (cs := #[.int .i64 a1_0, .slice A1_1 l1_1.length c1_1]) (t := 48) ?hr ?_; (case hd => rfl); (case hg => rfl); (case hr => first | (go_simp; done) | (go_simp; rfl)); intro zF hg w13 hbox hb; have n0_ := Aside0.mk (zi (g := zE) (o := .cells #[.slice A0_0 l0_0.length c0_0] 45 (0, 0)) (BL zB.out) hb); have n1_ := Aside0.mk (zn (by exact bl HB.out) hb); have n2_ := Aside0.mk (hbox); have n3_ := Aside0.mk ((by rw [hg]; exact (zm (by exact bl HB.out)) : w.heap.size ≤ zF)); have n4_ := Aside0.mk ((by rw [hg]; exact (zm (by exact bl HB.out)) : w.heap.size ≤ zF)); have n5_ := Aside0.mk ((by rw [hg]; exact Nat.ne_of_lt (zt (g := zE) (o := .cells #[.slice A0_0 l0_0.length c0_0] 45 (0, 0)) (BL zB.out)) : zE ≠ zF)); have n6_ := Aside0.mk ((by rw [hg]; exact Nat.ne_of_gt (zt (g := zE) (o := .cells #[.slice A0_0 l0_0.length c0_0] 45 (0, 0)) (BL zB.out)) : zF ≠ zE)); clear zB; clear HB; have zB := n0_; have HB := n1_; have zA := n2_; have GW320 := n3_; have zQ := n4_; have zBb := n5_; have zCb := n6_; clear n0_ n1_ n2_ n3_ n4_ n5_ n6_; clear hb hbox hg; have zRd := zBb.out; have zSd := zCb.out; have zLc : w13.cell? ⟨zE, 0, none⟩ = some (.slice A0_0 l0_0.length c0_0) := (zc zB.out 0).trans rfl; have zMc := ze zB.out 0) | ((with_reducible refine zr (f := 16) rfl ?_); refine zz (some 16) rfl rfl Tryd.func16 (by kernel_rfl) rfl #[.agg #[.slice A0_0 l0_0.length c0_0], .int .i64 1048576] rfl (by (try simp only [List.map_toArray, List.map_cons, List.map_nil]); first | done | rfl) ?_; (with_reducible refine (laws_szTree.calls k _ _ l0_0 1048576 t321 _ ?side1 ?side2 A3.out).mono ?_); (case side1 => repeat (first | exact (Kd.C_below HR0_0.out HB.out) | (with_reducible refine Kd.C_alloc ?_ _) | (with_reducible refine Kd.C_drewN ?_ _) | (with_reducible refine Kd.C_drew ?_))); (case side2 => exact HC0_0.out); rintro e w16 ⟨rfl, hb⟩; refine ⟨_, rfl, ?_⟩; have n0_ := Aside0.mk (zi (g := zE) (o := .cells #[.slice A0_0 l0_0.length c0_0] 45 (0, 0)) (BL zB.out) hb); have n1_ := Aside0.mk (zi (g := zF) (o := .cells #[.int .i64 a1_0, .slice A1_1 l1_1.length c1_1] 48 (0, 0)) (BL zA.out) hb); have n2_ := Aside0.mk (zn (by exact bl HB.out) hb); clear zB; clear zA; clear HB; have zB := n0_; have zA := n1_; have HB := n2_; clear n0_ n1_ n2_; (try clear hb); (try clear hb2); (try clear hk); (try clear hi); have zNc : w16.cell? ⟨zF, 0, none⟩ = some (.int .i64 a1_0) := (zc zA.out 0).trans rfl; have zOc : w16.cell? ⟨zF, 1, none⟩ = some (.slice A1_1 l1_1.length c1_1) := (zc zA.out 1).trans rfl; have zPc := ze zA.out 0; have zQc := ze zA.out 1) | ((with_reducible refine zr (f := 17) rfl ?_); refine zz (some 21) rfl rfl Tryd.func17 (by kernel_rfl) rfl #[.agg #[.int .i64 a1_0, .slice A1_1 l1_1.length c1_1], .int .i64 t321] rfl (by (try simp only [List.map_toArray, List.map_cons, List.map_nil]); first | done | rfl) ?_; (with_reducible refine (laws_szTxn.calls k a1_0 _ _ l1_1 t321 t322 _ ?side1 ?side2 A10.out).mono ?_); (case side1 => repeat (first | exact (Kd.C_below HR1_1.out HB.out) | (with_reducible refine Kd.C_alloc ?_ _) | (with_reducible refine Kd.C_drewN ?_ _) | (with_reducible refine Kd.C_drew ?_))); (case side2 => exact HC1_1.out); rintro e w18 ⟨rfl, hb⟩; refine ⟨_, rfl, ?_⟩; have n0_ := Aside0.mk (zi (g := zE) (o := .cells #[.slice A0_0 l0_0.length c0_0] 45 (0, 0)) (BL zB.out) hb); have n1_ := Aside0.mk (zi (g := zF) (o := .cells #[.int .i64 a1_0, .slice A1_1 l1_1.length c1_1] 48 (0, 0)) (BL zA.out) hb); have n2_ := Aside0.mk (zn (by exact bl HB.out) hb); clear zB; clear zA; clear HB; have zB := n0_; have zA := n1_; have HB := n2_; clear n0_ n1_ n2_; (try clear hb); (try clear hb2); (try clear hk); (try clear hi)))
   go_ret
   exact ⟨by first | rfl | (simp [*] <;> rfl), by repeat (first | (with_reducible first | exact HB.out | apply zh | apply zf | apply zg | refine zd ?_ zP.out | refine zd ?_ zQ.out) | exact HB.out)⟩
  ·rw [if_neg c11] at H
   have c11b0 : decide (t322 < 0) = false := decide_eq_false c11
   clear c11
   replace H := Option.bind_eq_some_iff.mp H
   obtain ⟨t323, A190, H⟩ := H
   try dsimp only at H
   have A19 := Aside0.mk A190
   clear A190
   replace H := Option.bind_eq_some_iff.mp H
   obtain ⟨⟨t326, t327⟩, A200, H⟩ := H
   try dsimp only at H
   have A20 := Aside0.mk A200
   clear A200
   replace H := Option.bind_eq_some_iff.mp H
   obtain ⟨t330, A210, H⟩ := H
   try dsimp only at H
   have A21 := Aside0.mk A210
   clear A210
   replace H := Option.bind_eq_some_iff.mp H
   obtain ⟨t334, A220, H⟩ := H
   try dsimp only at H
   have A22 := Aside0.mk A220
   clear A220
   replace H := Option.bind_eq_some_iff.mp H
   obtain ⟨⟨t338, t339⟩, A230, H⟩ := H
   try dsimp only at H
   have A23 := Aside0.mk A230
   clear A230
   replace H := Option.bind_eq_some_iff.mp H
   obtain ⟨t343, A240, H⟩ := H
   try dsimp only at H
   have A24 := Aside0.mk A240
   clear A240
   replace H := Option.bind_eq_some_iff.mp H
   obtain ⟨t347, A250, H⟩ := H
   try dsimp only at H
   have A25 := Aside0.mk A250
   clear A250
   by_cases c26 : t347 = true
   ·subst c26
    rw [if_pos rfl] at H
    replace H := Option.bind_eq_some_iff.mp H
    obtain ⟨t348, A270, H⟩ := H
    try dsimp only at H
    have A27 := Aside0.mk A270
    clear A270
    replace H := Option.bind_eq_some_iff.mp H
    obtain ⟨t351, A280, H⟩ := H
    try dsimp only at H
    have A28 := Aside0.mk A280
    clear A280
    by_cases c29 : t351 = true
    ·subst c29
     rw [if_pos rfl] at H
     replace H := Option.bind_eq_some_iff.mp H
     obtain ⟨⟨t352, t353⟩, A300, H⟩ := H
     try dsimp only at H
     have A30 := Aside0.mk A300
     clear A300
     replace H := Option.bind_eq_some_iff.mp H
     obtain ⟨t356, A310, H⟩ := H
     try dsimp only at H
     have A31 := Aside0.mk A310
     clear A310
     by_cases c32 : t356 = true
     ·subst c32
      rw [if_pos rfl] at H
      replace H := Option.bind_eq_some_iff.mp H
      obtain ⟨⟨t357, t358⟩, A330, H⟩ := H
      try dsimp only at H
      have A33 := Aside0.mk A330
      clear A330
      replace H := Option.bind_eq_some_iff.mp H
      obtain ⟨⟨t359, t360⟩, A340, H⟩ := H
      try dsimp only at H
      have A34 := Aside0.mk A340
      clear A340
      have HC35 := Aside0.mk H
      clear H
      go_enter Tryd.func4, Tryd.ntmps4
      try go_wp2_with (first | ((with_reducible refine zu (N := 2) rfl ?_); refine zy ?hg (N := 2) ?hd (cs := #[.slice A0_0 l0_0.length c0_0]) (t := 45) ?hr ?_; (case hd => rfl); (case hg => rfl); (case hr => first | (go_simp; done) | (go_simp; rfl)); intro zE hg w36 hbox hb; have n0_ := Aside0.mk (zn (by exact bl HB.out) hb); have n1_ := Aside0.mk (hbox); have n2_ := Aside0.mk ((by rw [hg]; exact (zm (by exact bl HB.out)) : w.heap.size ≤ zE)); have n3_ := Aside0.mk ((by rw [hg]; exact (zm (by exact bl HB.out)) : w.heap.size ≤ zE)); clear HB; have HB := n0_; have zB := n1_; have GW319 := n2_; have zP := n3_; clear n0_ n1_ n2_ n3_; clear hb hbox hg) | ((with_reducible refine zu (N := 3) rfl ?_); refine zy ?hg (N := 3) ?hd (cs := #[.int .i64 a1_0, .slice A1_1 l1_1.length c1_1]) (t := 48) ?hr ?_; (case hd => rfl); (case hg => rfl); (case hr => first | (go_simp; done) | (go_simp; rfl)); intro zF hg w37 hbox hb; have n0_ := Aside0.mk (zi (g := zE) (o := .cells #[.slice A0_0 l0_0.length c0_0] 45 (0, 0)) (BL zB.out) hb); have n1_ := Aside0.mk (zn (by exact bl HB.out) hb); have n2_ := Aside0.mk (hbox); have n3_ := Aside0.mk ((by rw [hg]; exact (zm (by exact bl HB.out)) : w.heap.size ≤ zF)); have n4_ := Aside0.mk ((by rw [hg]; exact (zm (by exact bl HB.out)) : w.heap.size ≤ zF)); have n5_ := Aside0.mk ((by rw [hg]; exact Nat.ne_of_lt (zt (g := zE) (o := .cells #[.slice A0_0 l0_0.length c0_0] 45 (0, 0)) (BL zB.out)) : zE ≠ zF)); have n6_ := Aside0.mk ((by rw [hg]; exact Nat.ne_of_gt (zt (g := zE) (o := .cells #[.slice A0_0 l0_0.length c0_0] 45 (0, 0)) (BL zB.out)) : zF ≠ zE)); clear zB; clear HB; have zB := n0_; have HB := n1_; have zA := n2_; have GW320 := n3_; have zQ := n4_; have zBb := n5_; have zCb := n6_; clear n0_ n1_ n2_ n3_ n4_ n5_ n6_; clear hb hbox hg; have zTd := zBb.out; have zUd := zCb.out; have zRc : w37.cell? ⟨zE, 0, none⟩ = some (.slice A0_0 l0_0.length c0_0) := (zc zB.out 0).trans rfl; have zSc := ze zB.out 0) | ((with_reducible refine zr (f := 16) rfl ?_); refine zz (some 16) rfl rfl Tryd.func16 (by kernel_rfl) rfl #[.agg #[.slice A0_0 l0_0.length c0_0], .int .i64 1048576] rfl (by (try simp only [List.map_toArray, List.map_cons, List.map_nil]); first | done | rfl) ?_; (with_reducible refine (laws_szTree.calls k _ _ l0_0 1048576 t321 _ ?side1 ?side2 A3.out).mono ?_); (case side1 => repeat (first | exact (Kd.C_below HR0_0.out HB.out) | (with_reducible refine Kd.C_alloc ?_ _) | (with_reducible refine Kd.C_drewN ?_ _) | (with_reducible refine Kd.C_drew ?_))); (case side2 => exact HC0_0.out); rintro e w40 ⟨rfl, hb⟩; refine ⟨_, rfl, ?_⟩; have n0_ := Aside0.mk (zi (g := zE) (o := .cells #[.slice A0_0 l0_0.length c0_0] 45 (0, 0)) (BL zB.out) hb); have n1_ := Aside0.mk (zi (g := zF) (o := .cells #[.int .i64 a1_0, .slice A1_1 l1_1.length c1_1] 48 (0, 0)) (BL zA.out) hb); have n2_ := Aside0.mk (zn (by exact bl HB.out) hb); clear zB; clear zA; clear HB; have zB := n0_; have zA := n1_; have HB := n2_; clear n0_ n1_ n2_; (try clear hb); (try clear hb2); (try clear hk); (try clear hi); have zTc : w40.cell? ⟨zF, 0, none⟩ = some (.int .i64 a1_0) := (zc zA.out 0).trans rfl; have zUc : w40.cell? ⟨zF, 1, none⟩ = some (.slice A1_1 l1_1.length c1_1) := (zc zA.out 1).trans rfl; have zVc := ze zA.out 0; have zWc := ze zA.out 1) | ((with_reducible refine zr (f := 17) rfl ?_); refine zz (some 21) rfl rfl Tryd.func17 (by kernel_rfl) rfl #[.agg #[.int .i64 a1_0, .slice A1_1 l1_1.length c1_1], .int .i64 t321] rfl (by (try simp only [List.map_toArray, List.map_cons, List.map_nil]); first | done | rfl) ?_; (with_reducible refine (laws_szTxn.calls k a1_0 _ _ l1_1 t321 t322 _ ?side1 ?side2 A10.out).mono ?_); (case side1 => repeat (first | exact (Kd.C_below HR1_1.out HB.out) | (with_reducible refine Kd.C_alloc ?_ _) | (with_reducible refine Kd.C_drewN ?_ _) | (with_reducible refine Kd.C_drew ?_))); (case side2 => exact HC1_1.out); rintro e w42 ⟨rfl, hb⟩; refine ⟨_, rfl, ?_⟩; have n0_ := Aside0.mk (zi (g := zE) (o := .cells #[.slice A0_0 l0_0.length c0_0] 45 (0, 0)) (BL zB.out) hb); have n1_ := Aside0.mk (zi (g := zF) (o := .cells #[.int .i64 a1_0, .slice A1_1 l1_1.length c1_1] 48 (0, 0)) (BL zA.out) hb); have n2_ := Aside0.mk (zn (by exact bl HB.out) hb); clear zB; clear zA; clear HB; have zB := n0_; have zA := n1_; have HB := n2_; clear n0_ n1_ n2_; (try clear hb); (try clear hb2); (try clear hk); (try clear hi)))
      have n0_ := Aside0.mk (zl zB.out)
      have n1_ := Aside0.mk (zl zA.out)
      have n2_ := Aside0.mk (zg HB.out)
      clear zB
      clear zA
      clear HB
      have zB := n0_
      have zA := n1_
      have HB := n2_
      clear n0_ n1_ n2_
      refine start_ (n := 7) (S := fun w' => w'.cell? ⟨zE, 0, none⟩ = some (.slice A0_0 l0_0.length c0_0) ∧ w'.cell? ⟨zF, 0, none⟩ = some (.int .i64 a1_0) ∧ w'.cell? ⟨zF, 1, none⟩ = some (.slice A1_1 l1_1.length c1_1)) (ds := []) #[false, false, false, false, false, false, false] (by kernel_rfl) rfl rfl ⟨(zc zB.out 0).trans rfl, (zc zA.out 0).trans rfl, (zc zA.out 1).trans rfl⟩ (fun hHeld => ?_)
      generalize w42.drew = w43 at zB zA HB hHeld ⊢
      refine ta 0 24 rfl rfl (by kernel_rfl) (fun _ _ _ _ h => h) (by rfl) hHeld ⟨_, _, by rintro w' ⟨s0, s1, s2⟩; go_simp; rfl, by simp only [pt, ps, p0, p1, zo, zp]; rfl, ?_⟩
      refine ta 2 26 rfl rfl (by kernel_rfl) (fun _ _ _ _ h => h) (by rfl) hHeld ⟨_, _, by rintro w' ⟨s0, s1, s2⟩; go_simp; rfl, by simp only [pt, ps, p0, p1, zo, zp]; rfl, ?_⟩
      refine join_ (σ := Value × Value × Value × Nat) 1 #[true, true, true, true, true, true, false] (fun s_ => [(25, .agg #[s_.1]), (27, .agg #[.int .i64 t326, s_.2.1]), (28, .agg #[s_.2.2.1]), (6, .pointer (some ⟨s_.2.2.2, 0, none⟩))]) (fun s_ w' => (w'.cell? ⟨zE, 0, none⟩ = some (.slice A0_0 l0_0.length c0_0) ∧ w'.cell? ⟨zF, 0, none⟩ = some (.int .i64 a1_0) ∧ w'.cell? ⟨zF, 1, none⟩ = some (.slice A1_1 l1_1.length c1_1)) ∧ (Kd.R k77 77 w' w.heap.size (fun k_ => some k_ ≠ (s_.2.2.1 : Value).ownBlock) s_.1 t323) ∧ (Kd.R k108 108 w' w.heap.size (fun _ => True) s_.2.1 t327) ∧ (Kd.R k77 77 w' w.heap.size (fun k_ => some k_ ≠ (s_.1 : Value).ownBlock) s_.2.2.1 t330) ∧ (w'.heap[zE]? = some (.cells #[.slice A0_0 l0_0.length c0_0] 45 (0, 0))) ∧ (w'.heap[zF]? = some (.cells #[.int .i64 a1_0, .slice A1_1 l1_1.length c1_1] 48 (0, 0))) ∧ (w'.heap[s_.2.2.2]? = some (.cells #[.slice none 0 0] 25 (0, 0))) ∧ (w.heap.size ≤ s_.2.2.2) ∧ (w.heap.size ≤ s_.2.2.2) ∧ (zE ≠ s_.2.2.2) ∧ (s_.2.2.2 ≠ zE) ∧ (zF ≠ s_.2.2.2) ∧ (s_.2.2.2 ≠ zF) ∧ (Below w.heap.size w w')) ?_ ?_
      rotate_left
      ·intro hCont
       refine two_ (i := 1) (j := 5) (Ni := some 25) (Nj := some 6) #[true, true, true, false, false, false, false] #[true, false, true, false, false, true, false] rfl rfl rfl rfl (by kernel_rfl) (by decide) (by decide) (fun K hK => ?_) (fun K hK => ?_)
       ·skip
        refine goes_ Tryd.func19 (by kernel_rfl) rfl #[.agg #[.slice A0_0 l0_0.length c0_0]] (by rfl) rfl rfl (by (try simp only [List.map_toArray, List.map_cons, List.map_nil]); first | done | rfl) ?_
        with_reducible refine (laws_toTree.calls k _ _ l0_0 t323 _ ?side1 ?side2 A19.out).mono ?_
        (case side1 => repeat (first | exact (Kd.C_below HR0_0.out HB.out) | (with_reducible refine Kd.C_alloc ?_ _) | (with_reducible refine Kd.C_drewN ?_ _) | (with_reducible refine Kd.C_drew ?_)))
        (case side2 => exact HC0_0.out)
        rintro e w44 ⟨v324, rfl, zX, hb⟩
        refine ⟨_, rfl, ?_⟩
        have n0_ := Aside0.mk (Kd.R_lower zX (zm (by repeat (first | (with_reducible first | exact HB.out | apply zh | apply zf | apply zg | refine zd ?_ zP.out | refine zd ?_ zQ.out) | exact HB.out))))
        have n1_ := Aside0.mk (zi (g := zE) (o := .cells #[.slice A0_0 l0_0.length c0_0] 45 (0, 0)) (BL zB.out) hb)
        have n2_ := Aside0.mk (zi (g := zF) (o := .cells #[.int .i64 a1_0, .slice A1_1 l1_1.length c1_1] 48 (0, 0)) (BL zA.out) hb)
        have n3_ := Aside0.mk (zn (by repeat (first | (with_reducible first | exact HB.out | apply zh | apply zf | apply zg | refine zd ?_ zP.out | refine zd ?_ zQ.out) | exact HB.out)) hb)
        clear zB
        clear zA
        clear HB
        have zN := n0_
        have zB := n1_
        have zA := n2_
        have HB := n3_
        clear n0_ n1_ n2_ n3_
        (try clear hb)
        (try clear hb2)
        (try clear hk)
        (try clear hi)
        (try clear zX)
        refine hK.out _ _ ⟨(zc zB.out 0).trans rfl, (zc zA.out 0).trans rfl, (zc zA.out 1).trans rfl⟩ (fun hHeld => ?_)
        clear hK K
        refine norm_ (a' := ?_) ?_ ?_
        rotate_left
        ·show Act.put _ (some 25) _ = _
         simp only [pt, ps, p0, p1, zo, zp]
         rfl
        refine two_ (i := 3) (j := 5) (Ni := some 27) (Nj := some 6) #[true, true, true, true, false, false, false] #[true, true, true, false, false, true, false] rfl rfl rfl rfl (by kernel_rfl) (by decide) (by decide) (fun K hK => ?_) (fun K hK => ?_)
        ·skip
         refine goes_ Tryd.func20 (by kernel_rfl) rfl #[.agg #[.int .i64 a1_0, .slice A1_1 l1_1.length c1_1]] (by rfl) rfl rfl (by (try simp only [List.map_toArray, List.map_cons, List.map_nil]); first | done | rfl) ?_
         with_reducible refine (laws_toTxn.calls k a1_0 _ _ l1_1 t326 t327 _ ?side1 ?side2 A20.out).mono ?_
         (case side1 => repeat (first | exact (Kd.C_below HR1_1.out HB.out) | (with_reducible refine Kd.C_alloc ?_ _) | (with_reducible refine Kd.C_drewN ?_ _) | (with_reducible refine Kd.C_drew ?_)))
         (case side2 => exact HC1_1.out)
         rintro e w45 ⟨v328, rfl, zX, hb⟩
         refine ⟨_, rfl, ?_⟩
         have n0_ := Aside0.mk (Kd.R_below (RL zN.out) hb)
         have n1_ := Aside0.mk (Kd.R_lower zX (zm (by repeat (first | (with_reducible first | exact HB.out | apply zh | apply zf | apply zg | refine zd ?_ zP.out | refine zd ?_ zQ.out) | exact HB.out))))
         have n2_ := Aside0.mk (zi (g := zE) (o := .cells #[.slice A0_0 l0_0.length c0_0] 45 (0, 0)) (BL zB.out) hb)
         have n3_ := Aside0.mk (zi (g := zF) (o := .cells #[.int .i64 a1_0, .slice A1_1 l1_1.length c1_1] 48 (0, 0)) (BL zA.out) hb)
         have n4_ := Aside0.mk (zn (by repeat (first | (with_reducible first | exact HB.out | apply zh | apply zf | apply zg | refine zd ?_ zP.out | refine zd ?_ zQ.out) | exact HB.out)) hb)
         clear zN
         clear zB
         clear zA
         clear HB
         have zN := n0_
         have zR := n1_
         have zB := n2_
         have zA := n3_
         have HB := n4_
         clear n0_ n1_ n2_ n3_ n4_
         (try clear hb)
         (try clear hb2)
         (try clear hk)
         (try clear hi)
         (try clear zX)
         obtain ⟨Ao46, co46, eo46⟩ := Kd.R_slice zN.out
         (first | subst eo46 | (injection eo46 with f1_ f2_ f3_; have f4_ := f1_.symm; have f5_ := f3_.symm; clear f1_ f2_ f3_; subst f4_; subst f5_))
         obtain ⟨Ao47, co47, eo47⟩ := Kd.R_slice zR.out
         (first | subst eo47 | (injection eo47 with f1_ f2_ f3_; have f4_ := f1_.symm; have f5_ := f3_.symm; clear f1_ f2_ f3_; subst f4_; subst f5_))
         refine hK.out _ _ ⟨(zc zB.out 0).trans rfl, (zc zA.out 0).trans rfl, (zc zA.out 1).trans rfl⟩ (fun hHeld => ?_)
         clear hK K
         refine norm_ (a' := ?_) ?_ ?_
         rotate_left
         ·show Act.put _ (some 27) _ = _
          simp only [pt, ps, p0, p1, zo, zp]
          rfl
         refine two_ (i := 4) (j := 5) (Ni := some 28) (Nj := some 6) #[true, true, true, true, true, false, false] #[true, true, true, true, false, true, false] rfl rfl rfl rfl (by kernel_rfl) (by decide) (by decide) (fun K hK => ?_) (fun K hK => ?_)
         ·skip
          refine goes_ Tryd.func18 (by kernel_rfl) rfl #[.agg #[.slice Ao46 t323.length co46], .agg #[.int .i64 t326, .slice Ao47 t327.length co47]] (by rfl) rfl rfl (by (try simp only [List.map_toArray, List.map_cons, List.map_nil]); first | done | rfl) ?_
          with_reducible refine (spec_ApplyTxn.calls k _ _ t323 t326 _ _ t327 t330 _ ?side1 ?side2 ?side3 ?side4 A21.out).mono ?_
          (case side1 => repeat (first | exact (Kd.R_reads' zN.out).2.2 | (with_reducible refine Kd.C_alloc ?_ _) | (with_reducible refine Kd.C_drewN ?_ _) | (with_reducible refine Kd.C_drew ?_)))
          (case side2 => exact (Kd.R_reads' zN.out).2.1)
          (case side3 => repeat (first | exact (Kd.R_reads' zR.out).2.2 | (with_reducible refine Kd.C_alloc ?_ _) | (with_reducible refine Kd.C_drewN ?_ _) | (with_reducible refine Kd.C_drew ?_)))
          (case side4 => exact (Kd.R_reads' zR.out).2.1)
          rintro e w48 ⟨v331, rfl, zX, hb⟩
          refine ⟨_, rfl, ?_⟩
          have n0_ := Aside0.mk (Kd.R_elder' (RL zN.out) (Kd.R_base zX) hb)
          have n1_ := Aside0.mk (Kd.R_below (RL zR.out) hb)
          have n2_ := Aside0.mk (Kd.R_lower (Kd.R_new' zX (Kd.R_lt (RL zN.out))) (zm (by repeat (first | (with_reducible first | exact HB.out | apply zh | apply zf | apply zg | refine zd ?_ zP.out | refine zd ?_ zQ.out) | exact HB.out))))
          have n3_ := Aside0.mk (zi (g := zE) (o := .cells #[.slice A0_0 l0_0.length c0_0] 45 (0, 0)) (BL zB.out) hb)
          have n4_ := Aside0.mk (zi (g := zF) (o := .cells #[.int .i64 a1_0, .slice A1_1 l1_1.length c1_1] 48 (0, 0)) (BL zA.out) hb)
          have n5_ := Aside0.mk (zn (by repeat (first | (with_reducible first | exact HB.out | apply zh | apply zf | apply zg | refine zd ?_ zP.out | refine zd ?_ zQ.out) | exact HB.out)) hb)
          clear zN
          clear zR
          clear zB
          clear zA
          clear HB
          have zN := n0_
          have zR := n1_
          have zV := n2_
          have zB := n3_
          have zA := n4_
          have HB := n5_
          clear n0_ n1_ n2_ n3_ n4_ n5_
          (try clear hb)
          (try clear hb2)
          (try clear hk)
          (try clear hi)
          (try clear zX)
          refine hK.out _ _ ⟨(zc zB.out 0).trans rfl, (zc zA.out 0).trans rfl, (zc zA.out 1).trans rfl⟩ (fun hHeld => ?_)
          clear hK K
          refine norm_ (a' := ?_) ?_ ?_
          rotate_left
          ·show Act.put _ (some 28) _ = _
           simp only [pt, ps, p0, p1, zo, zp]
           rfl
          refine one_ (i := 5) (N := some 6) #[true, true, true, true, true, true, false] rfl rfl (by kernel_rfl) (by decide) (fun K hK => ?_)
          refine box_step ?hg (N := 6) ?hd (cs := #[.slice none 0 0]) (t := 25) ?hr ?_; (case hd => rfl); (case hg => rfl); (case hr => first | (go_simp; done) | (go_simp; rfl))
          intro zL hg w49 hbox hb
          have n0_ := Aside0.mk (Kd.R_below (RL zN.out) hb)
          have n1_ := Aside0.mk (Kd.R_below (RL zR.out) hb)
          have n2_ := Aside0.mk (Kd.R_below (RL zV.out) hb)
          have n3_ := Aside0.mk (zi (g := zE) (o := .cells #[.slice A0_0 l0_0.length c0_0] 45 (0, 0)) (BL zB.out) hb)
          have n4_ := Aside0.mk (zi (g := zF) (o := .cells #[.int .i64 a1_0, .slice A1_1 l1_1.length c1_1] 48 (0, 0)) (BL zA.out) hb)
          have n5_ := Aside0.mk (zn (by repeat (first | (with_reducible first | exact HB.out | apply zh | apply zf | apply zg | refine zd ?_ zP.out | refine zd ?_ zQ.out) | exact HB.out)) hb)
          have n6_ := Aside0.mk (hbox)
          have n7_ := Aside0.mk ((by rw [hg]; exact (zm (by repeat (first | (with_reducible first | exact HB.out | apply zh | apply zf | apply zg | refine zd ?_ zP.out | refine zd ?_ zQ.out) | exact HB.out))) : w.heap.size ≤ zL))
          have n8_ := Aside0.mk ((by rw [hg]; exact (zm (by repeat (first | (with_reducible first | exact HB.out | apply zh | apply zf | apply zg | refine zd ?_ zP.out | refine zd ?_ zQ.out) | exact HB.out))) : w.heap.size ≤ zL))
          have n9_ := Aside0.mk ((by rw [hg]; exact Nat.ne_of_lt (zt (g := zE) (o := .cells #[.slice A0_0 l0_0.length c0_0] 45 (0, 0)) (BL zB.out)) : zE ≠ zL))
          have n10_ := Aside0.mk ((by rw [hg]; exact Nat.ne_of_gt (zt (g := zE) (o := .cells #[.slice A0_0 l0_0.length c0_0] 45 (0, 0)) (BL zB.out)) : zL ≠ zE))
          have n11_ := Aside0.mk ((by rw [hg]; exact Nat.ne_of_lt (zt (g := zF) (o := .cells #[.int .i64 a1_0, .slice A1_1 l1_1.length c1_1] 48 (0, 0)) (BL zA.out)) : zF ≠ zL))
          have n12_ := Aside0.mk ((by rw [hg]; exact Nat.ne_of_gt (zt (g := zF) (o := .cells #[.int .i64 a1_0, .slice A1_1 l1_1.length c1_1] 48 (0, 0)) (BL zA.out)) : zL ≠ zF))
          clear zN
          clear zR
          clear zV
          clear zB
          clear zA
          clear HB
          have zN := n0_
          have zR := n1_
          have zV := n2_
          have zB := n3_
          have zA := n4_
          have HB := n5_
          have zC := n6_
          have GW333 := n7_
          have zS := n8_
          have zib := n9_
          have zmb := n10_
          have zhb := n11_
          have znb := n12_
          clear n0_ n1_ n2_ n3_ n4_ n5_ n6_ n7_ n8_ n9_ n10_ n11_ n12_
          clear hb hbox hg
          refine hK.out _ _ ⟨(zc zB.out 0).trans rfl, (zc zA.out 0).trans rfl, (zc zA.out 1).trans rfl⟩ (fun hHeld => ?_)
          clear hK K
          refine norm_ (a' := ?_) ?_ ?_
          rotate_left
          ·show Act.put _ (some 6) _ = _
           simp only [pt, ps, p0, p1, zo, zp]
           rfl
          exact norm_ (by simp only [putAll, Act.put, List.setIfInBounds_toArray, List.set_cons_zero, List.set_cons_succ]) (hCont (.slice Ao46 t323.length co46, .slice Ao47 t327.length co47, v331, zL) _ ⟨hHeld, (by exact RL (Kd.R_mono zN.out (fun _ hk => hk.2))), (by exact RL zR.out), (by exact RL (Kd.R_mono zV.out (fun _ hk => hk.2))), (by exact BL zB.out), (by exact BL zA.out), (by exact BL zC.out), GW333.out, zS.out, zib.out, zmb.out, zhb.out, znb.out, (by repeat (first | (with_reducible first | exact HB.out | apply zh | apply zf | apply zg | refine zd ?_ zP.out | refine zd ?_ zQ.out | refine zd ?_ zS.out) | exact HB.out))⟩)
         ·skip
          refine box_step ?hg (N := 6) ?hd (cs := #[.slice none 0 0]) (t := 25) ?hr ?_; (case hd => rfl); (case hg => rfl); (case hr => first | (go_simp; done) | (go_simp; rfl))
          intro zL hg w46 hbox hb
          have n0_ := Aside0.mk (Kd.R_below (RL zN.out) hb)
          have n1_ := Aside0.mk (Kd.R_below (RL zR.out) hb)
          have n2_ := Aside0.mk (zi (g := zE) (o := .cells #[.slice A0_0 l0_0.length c0_0] 45 (0, 0)) (BL zB.out) hb)
          have n3_ := Aside0.mk (zi (g := zF) (o := .cells #[.int .i64 a1_0, .slice A1_1 l1_1.length c1_1] 48 (0, 0)) (BL zA.out) hb)
          have n4_ := Aside0.mk (zn (by repeat (first | (with_reducible first | exact HB.out | apply zh | apply zf | apply zg | refine zd ?_ zP.out | refine zd ?_ zQ.out) | exact HB.out)) hb)
          have n5_ := Aside0.mk (hbox)
          have n6_ := Aside0.mk ((by rw [hg]; exact (zm (by repeat (first | (with_reducible first | exact HB.out | apply zh | apply zf | apply zg | refine zd ?_ zP.out | refine zd ?_ zQ.out) | exact HB.out))) : w.heap.size ≤ zL))
          have n7_ := Aside0.mk ((by rw [hg]; exact (zm (by repeat (first | (with_reducible first | exact HB.out | apply zh | apply zf | apply zg | refine zd ?_ zP.out | refine zd ?_ zQ.out) | exact HB.out))) : w.heap.size ≤ zL))
          have n8_ := Aside0.mk ((by rw [hg]; exact Nat.ne_of_lt (zt (g := zE) (o := .cells #[.slice A0_0 l0_0.length c0_0] 45 (0, 0)) (BL zB.out)) : zE ≠ zL))
          have n9_ := Aside0.mk ((by rw [hg]; exact Nat.ne_of_gt (zt (g := zE) (o := .cells #[.slice A0_0 l0_0.length c0_0] 45 (0, 0)) (BL zB.out)) : zL ≠ zE))
          have n10_ := Aside0.mk ((by rw [hg]; exact Nat.ne_of_lt (zt (g := zF) (o := .cells #[.int .i64 a1_0, .slice A1_1 l1_1.length c1_1] 48 (0, 0)) (BL zA.out)) : zF ≠ zL))
          have n11_ := Aside0.mk ((by rw [hg]; exact Nat.ne_of_gt (zt (g := zF) (o := .cells #[.int .i64 a1_0, .slice A1_1 l1_1.length c1_1] 48 (0, 0)) (BL zA.out)) : zL ≠ zF))
          clear zN
          clear zR
          clear zB
          clear zA
          clear HB
          have zN := n0_
          have zR := n1_
          have zB := n2_
          have zA := n3_
          have HB := n4_
          have zC := n5_
          have GW333 := n6_
          have zS := n7_
          have zib := n8_
          have zmb := n9_
          have zhb := n10_
          have znb := n11_
          clear n0_ n1_ n2_ n3_ n4_ n5_ n6_ n7_ n8_ n9_ n10_ n11_
          clear hb hbox hg
          obtain ⟨Ao47, co47, eo47⟩ := Kd.R_slice zN.out
          (first | subst eo47 | (injection eo47 with f1_ f2_ f3_; have f4_ := f1_.symm; have f5_ := f3_.symm; clear f1_ f2_ f3_; subst f4_; subst f5_))
          obtain ⟨Ao48, co48, eo48⟩ := Kd.R_slice zR.out
          (first | subst eo48 | (injection eo48 with f1_ f2_ f3_; have f4_ := f1_.symm; have f5_ := f3_.symm; clear f1_ f2_ f3_; subst f4_; subst f5_))
          refine hK.out _ _ ⟨(zc zB.out 0).trans rfl, (zc zA.out 0).trans rfl, (zc zA.out 1).trans rfl⟩ (fun hHeld => ?_)
          clear hK K
          refine norm_ (a' := ?_) ?_ ?_
          rotate_left
          ·show Act.put _ (some 6) _ = _
           simp only [pt, ps, p0, p1, zo, zp]
           rfl
          refine one_ (i := 4) (N := some 28) #[true, true, true, true, true, true, false] rfl rfl (by kernel_rfl) (by decide) (fun K hK => ?_)
          refine goes_ Tryd.func18 (by kernel_rfl) rfl #[.agg #[.slice Ao47 t323.length co47], .agg #[.int .i64 t326, .slice Ao48 t327.length co48]] (by rfl) rfl rfl (by (try simp only [List.map_toArray, List.map_cons, List.map_nil]); first | done | rfl) ?_
          with_reducible refine (spec_ApplyTxn.calls k _ _ t323 t326 _ _ t327 t330 _ ?side1 ?side2 ?side3 ?side4 A21.out).mono ?_
          (case side1 => repeat (first | exact (Kd.R_reads' zN.out).2.2 | (with_reducible refine Kd.C_alloc ?_ _) | (with_reducible refine Kd.C_drewN ?_ _) | (with_reducible refine Kd.C_drew ?_)))
          (case side2 => exact (Kd.R_reads' zN.out).2.1)
          (case side3 => repeat (first | exact (Kd.R_reads' zR.out).2.2 | (with_reducible refine Kd.C_alloc ?_ _) | (with_reducible refine Kd.C_drewN ?_ _) | (with_reducible refine Kd.C_drew ?_)))
          (case side4 => exact (Kd.R_reads' zR.out).2.1)
          rintro e w49 ⟨v331, rfl, zX, hb⟩
          refine ⟨_, rfl, ?_⟩
          have n0_ := Aside0.mk (Kd.R_elder' (RL zN.out) (Kd.R_base zX) hb)
          have n1_ := Aside0.mk (Kd.R_below (RL zR.out) hb)
          have n2_ := Aside0.mk (Kd.R_lower (Kd.R_new' zX (Kd.R_lt (RL zN.out))) (zm (by repeat (first | (with_reducible first | exact HB.out | apply zh | apply zf | apply zg | refine zd ?_ zP.out | refine zd ?_ zQ.out | refine zd ?_ zS.out) | exact HB.out))))
          have n3_ := Aside0.mk (zi (g := zE) (o := .cells #[.slice A0_0 l0_0.length c0_0] 45 (0, 0)) (BL zB.out) hb)
          have n4_ := Aside0.mk (zi (g := zF) (o := .cells #[.int .i64 a1_0, .slice A1_1 l1_1.length c1_1] 48 (0, 0)) (BL zA.out) hb)
          have n5_ := Aside0.mk (zi (g := zL) (o := .cells #[.slice none 0 0] 25 (0, 0)) (BL zC.out) hb)
          have n6_ := Aside0.mk (zn (by repeat (first | (with_reducible first | exact HB.out | apply zh | apply zf | apply zg | refine zd ?_ zP.out | refine zd ?_ zQ.out | refine zd ?_ zS.out) | exact HB.out)) hb)
          clear zN
          clear zR
          clear zB
          clear zA
          clear zC
          clear HB
          have zN := n0_
          have zR := n1_
          have zV := n2_
          have zB := n3_
          have zA := n4_
          have zC := n5_
          have HB := n6_
          clear n0_ n1_ n2_ n3_ n4_ n5_ n6_
          (try clear hb)
          (try clear hb2)
          (try clear hk)
          (try clear hi)
          (try clear zX)
          refine hK.out _ _ ⟨(zc zB.out 0).trans rfl, (zc zA.out 0).trans rfl, (zc zA.out 1).trans rfl⟩ (fun hHeld => ?_)
          clear hK K
          refine norm_ (a' := ?_) ?_ ?_
          rotate_left
          ·show Act.put _ (some 28) _ = _
           simp only [pt, ps, p0, p1, zo, zp]
           rfl
          exact norm_ (by simp only [putAll, Act.put, List.setIfInBounds_toArray, List.set_cons_zero, List.set_cons_succ]) (hCont (.slice Ao47 t323.length co47, .slice Ao48 t327.length co48, v331, zL) _ ⟨hHeld, (by exact RL (Kd.R_mono zN.out (fun _ hk => hk.2))), (by exact RL zR.out), (by exact RL (Kd.R_mono zV.out (fun _ hk => hk.2))), (by exact BL zB.out), (by exact BL zA.out), (by exact BL zC.out), GW333.out, zS.out, zib.out, zmb.out, zhb.out, znb.out, (by repeat (first | (with_reducible first | exact HB.out | apply zh | apply zf | apply zg | refine zd ?_ zP.out | refine zd ?_ zQ.out | refine zd ?_ zS.out) | exact HB.out))⟩)
        ·skip
         refine box_step ?hg (N := 6) ?hd (cs := #[.slice none 0 0]) (t := 25) ?hr ?_; (case hd => rfl); (case hg => rfl); (case hr => first | (go_simp; done) | (go_simp; rfl))
         intro zL hg w45 hbox hb
         have n0_ := Aside0.mk (Kd.R_below (RL zN.out) hb)
         have n1_ := Aside0.mk (zi (g := zE) (o := .cells #[.slice A0_0 l0_0.length c0_0] 45 (0, 0)) (BL zB.out) hb)
         have n2_ := Aside0.mk (zi (g := zF) (o := .cells #[.int .i64 a1_0, .slice A1_1 l1_1.length c1_1] 48 (0, 0)) (BL zA.out) hb)
         have n3_ := Aside0.mk (zn (by repeat (first | (with_reducible first | exact HB.out | apply zh | apply zf | apply zg | refine zd ?_ zP.out | refine zd ?_ zQ.out) | exact HB.out)) hb)
         have n4_ := Aside0.mk (hbox)
         have n5_ := Aside0.mk ((by rw [hg]; exact (zm (by repeat (first | (with_reducible first | exact HB.out | apply zh | apply zf | apply zg | refine zd ?_ zP.out | refine zd ?_ zQ.out) | exact HB.out))) : w.heap.size ≤ zL))
         have n6_ := Aside0.mk ((by rw [hg]; exact (zm (by repeat (first | (with_reducible first | exact HB.out | apply zh | apply zf | apply zg | refine zd ?_ zP.out | refine zd ?_ zQ.out) | exact HB.out))) : w.heap.size ≤ zL))
         have n7_ := Aside0.mk ((by rw [hg]; exact Nat.ne_of_lt (zt (g := zE) (o := .cells #[.slice A0_0 l0_0.length c0_0] 45 (0, 0)) (BL zB.out)) : zE ≠ zL))
         have n8_ := Aside0.mk ((by rw [hg]; exact Nat.ne_of_gt (zt (g := zE) (o := .cells #[.slice A0_0 l0_0.length c0_0] 45 (0, 0)) (BL zB.out)) : zL ≠ zE))
         have n9_ := Aside0.mk ((by rw [hg]; exact Nat.ne_of_lt (zt (g := zF) (o := .cells #[.int .i64 a1_0, .slice A1_1 l1_1.length c1_1] 48 (0, 0)) (BL zA.out)) : zF ≠ zL))
         have n10_ := Aside0.mk ((by rw [hg]; exact Nat.ne_of_gt (zt (g := zF) (o := .cells #[.int .i64 a1_0, .slice A1_1 l1_1.length c1_1] 48 (0, 0)) (BL zA.out)) : zL ≠ zF))
         clear zN
         clear zB
         clear zA
         clear HB
         have zN := n0_
         have zB := n1_
         have zA := n2_
         have HB := n3_
         have zC := n4_
         have GW333 := n5_
         have zS := n6_
         have zib := n7_
         have zmb := n8_
         have zhb := n9_
         have znb := n10_
         clear n0_ n1_ n2_ n3_ n4_ n5_ n6_ n7_ n8_ n9_ n10_
         clear hb hbox hg
         refine hK.out _ _ ⟨(zc zB.out 0).trans rfl, (zc zA.out 0).trans rfl, (zc zA.out 1).trans rfl⟩ (fun hHeld => ?_)
         clear hK K
         refine norm_ (a' := ?_) ?_ ?_
         rotate_left
         ·show Act.put _ (some 6) _ = _
          simp only [pt, ps, p0, p1, zo, zp]
          rfl
         refine one_ (i := 3) (N := some 27) #[true, true, true, true, false, true, false] rfl rfl (by kernel_rfl) (by decide) (fun K hK => ?_)
         refine goes_ Tryd.func20 (by kernel_rfl) rfl #[.agg #[.int .i64 a1_0, .slice A1_1 l1_1.length c1_1]] (by rfl) rfl rfl (by (try simp only [List.map_toArray, List.map_cons, List.map_nil]); first | done | rfl) ?_
         with_reducible refine (laws_toTxn.calls k a1_0 _ _ l1_1 t326 t327 _ ?side1 ?side2 A20.out).mono ?_
         (case side1 => repeat (first | exact (Kd.C_below HR1_1.out HB.out) | (with_reducible refine Kd.C_alloc ?_ _) | (with_reducible refine Kd.C_drewN ?_ _) | (with_reducible refine Kd.C_drew ?_)))
         (case side2 => exact HC1_1.out)
         rintro e w46 ⟨v328, rfl, zX, hb⟩
         refine ⟨_, rfl, ?_⟩
         have n0_ := Aside0.mk (Kd.R_below (RL zN.out) hb)
         have n1_ := Aside0.mk (Kd.R_lower zX (zm (by repeat (first | (with_reducible first | exact HB.out | apply zh | apply zf | apply zg | refine zd ?_ zP.out | refine zd ?_ zQ.out | refine zd ?_ zS.out) | exact HB.out))))
         have n2_ := Aside0.mk (zi (g := zE) (o := .cells #[.slice A0_0 l0_0.length c0_0] 45 (0, 0)) (BL zB.out) hb)
         have n3_ := Aside0.mk (zi (g := zF) (o := .cells #[.int .i64 a1_0, .slice A1_1 l1_1.length c1_1] 48 (0, 0)) (BL zA.out) hb)
         have n4_ := Aside0.mk (zi (g := zL) (o := .cells #[.slice none 0 0] 25 (0, 0)) (BL zC.out) hb)
         have n5_ := Aside0.mk (zn (by repeat (first | (with_reducible first | exact HB.out | apply zh | apply zf | apply zg | refine zd ?_ zP.out | refine zd ?_ zQ.out | refine zd ?_ zS.out) | exact HB.out)) hb)
         clear zN
         clear zB
         clear zA
         clear zC
         clear HB
         have zN := n0_
         have zR := n1_
         have zB := n2_
         have zA := n3_
         have zC := n4_
         have HB := n5_
         clear n0_ n1_ n2_ n3_ n4_ n5_
         (try clear hb)
         (try clear hb2)
         (try clear hk)
         (try clear hi)
         (try clear zX)
         obtain ⟨Ao47, co47, eo47⟩ := Kd.R_slice zN.out
         (first | subst eo47 | (injection eo47 with f1_ f2_ f3_; have f4_ := f1_.symm; have f5_ := f3_.symm; clear f1_ f2_ f3_; subst f4_; subst f5_))
         obtain ⟨Ao48, co48, eo48⟩ := Kd.R_slice zR.out
         (first | subst eo48 | (injection eo48 with f1_ f2_ f3_; have f4_ := f1_.symm; have f5_ := f3_.symm; clear f1_ f2_ f3_; subst f4_; subst f5_))
         refine hK.out _ _ ⟨(zc zB.out 0).trans rfl, (zc zA.out 0).trans rfl, (zc zA.out 1).trans rfl⟩ (fun hHeld => ?_)
         clear hK K
         refine norm_ (a' := ?_) ?_ ?_
         rotate_left
         ·show Act.put _ (some 27) _ = _
          simp only [pt, ps, p0, p1, zo, zp]
          rfl
         refine one_ (i := 4) (N := some 28) #[true, true, true, true, true, true, false] rfl rfl (by kernel_rfl) (by decide) (fun K hK => ?_)
         refine goes_ Tryd.func18 (by kernel_rfl) rfl #[.agg #[.slice Ao47 t323.length co47], .agg #[.int .i64 t326, .slice Ao48 t327.length co48]] (by rfl) rfl rfl (by (try simp only [List.map_toArray, List.map_cons, List.map_nil]); first | done | rfl) ?_
         with_reducible refine (spec_ApplyTxn.calls k _ _ t323 t326 _ _ t327 t330 _ ?side1 ?side2 ?side3 ?side4 A21.out).mono ?_
         (case side1 => repeat (first | exact (Kd.R_reads' zN.out).2.2 | (with_reducible refine Kd.C_alloc ?_ _) | (with_reducible refine Kd.C_drewN ?_ _) | (with_reducible refine Kd.C_drew ?_)))
         (case side2 => exact (Kd.R_reads' zN.out).2.1)
         (case side3 => repeat (first | exact (Kd.R_reads' zR.out).2.2 | (with_reducible refine Kd.C_alloc ?_ _) | (with_reducible refine Kd.C_drewN ?_ _) | (with_reducible refine Kd.C_drew ?_)))
         (case side4 => exact (Kd.R_reads' zR.out).2.1)
         rintro e w49 ⟨v331, rfl, zX, hb⟩
         refine ⟨_, rfl, ?_⟩
         have n0_ := Aside0.mk (Kd.R_elder' (RL zN.out) (Kd.R_base zX) hb)
         have n1_ := Aside0.mk (Kd.R_below (RL zR.out) hb)
         have n2_ := Aside0.mk (Kd.R_lower (Kd.R_new' zX (Kd.R_lt (RL zN.out))) (zm (by repeat (first | (with_reducible first | exact HB.out | apply zh | apply zf | apply zg | refine zd ?_ zP.out | refine zd ?_ zQ.out | refine zd ?_ zS.out) | exact HB.out))))
         have n3_ := Aside0.mk (zi (g := zE) (o := .cells #[.slice A0_0 l0_0.length c0_0] 45 (0, 0)) (BL zB.out) hb)
         have n4_ := Aside0.mk (zi (g := zF) (o := .cells #[.int .i64 a1_0, .slice A1_1 l1_1.length c1_1] 48 (0, 0)) (BL zA.out) hb)
         have n5_ := Aside0.mk (zi (g := zL) (o := .cells #[.slice none 0 0] 25 (0, 0)) (BL zC.out) hb)
         have n6_ := Aside0.mk (zn (by repeat (first | (with_reducible first | exact HB.out | apply zh | apply zf | apply zg | refine zd ?_ zP.out | refine zd ?_ zQ.out | refine zd ?_ zS.out) | exact HB.out)) hb)
         clear zN
         clear zR
         clear zB
         clear zA
         clear zC
         clear HB
         have zN := n0_
         have zR := n1_
         have zV := n2_
         have zB := n3_
         have zA := n4_
         have zC := n5_
         have HB := n6_
         clear n0_ n1_ n2_ n3_ n4_ n5_ n6_
         (try clear hb)
         (try clear hb2)
         (try clear hk)
         (try clear hi)
         (try clear zX)
         refine hK.out _ _ ⟨(zc zB.out 0).trans rfl, (zc zA.out 0).trans rfl, (zc zA.out 1).trans rfl⟩ (fun hHeld => ?_)
         clear hK K
         refine norm_ (a' := ?_) ?_ ?_
         rotate_left
         ·show Act.put _ (some 28) _ = _
          simp only [pt, ps, p0, p1, zo, zp]
          rfl
         exact norm_ (by simp only [putAll, Act.put, List.setIfInBounds_toArray, List.set_cons_zero, List.set_cons_succ]) (hCont (.slice Ao47 t323.length co47, .slice Ao48 t327.length co48, v331, zL) _ ⟨hHeld, (by exact RL (Kd.R_mono zN.out (fun _ hk => hk.2))), (by exact RL zR.out), (by exact RL (Kd.R_mono zV.out (fun _ hk => hk.2))), (by exact BL zB.out), (by exact BL zA.out), (by exact BL zC.out), GW333.out, zS.out, zib.out, zmb.out, zhb.out, znb.out, (by repeat (first | (with_reducible first | exact HB.out | apply zh | apply zf | apply zg | refine zd ?_ zP.out | refine zd ?_ zQ.out | refine zd ?_ zS.out) | exact HB.out))⟩)
       ·skip
        refine box_step ?hg (N := 6) ?hd (cs := #[.slice none 0 0]) (t := 25) ?hr ?_; (case hd => rfl); (case hg => rfl); (case hr => first | (go_simp; done) | (go_simp; rfl))
        intro zL hg w44 hbox hb
        have n0_ := Aside0.mk (zi (g := zE) (o := .cells #[.slice A0_0 l0_0.length c0_0] 45 (0, 0)) (BL zB.out) hb)
        have n1_ := Aside0.mk (zi (g := zF) (o := .cells #[.int .i64 a1_0, .slice A1_1 l1_1.length c1_1] 48 (0, 0)) (BL zA.out) hb)
        have n2_ := Aside0.mk (zn (by repeat (first | (with_reducible first | exact HB.out | apply zh | apply zf | apply zg | refine zd ?_ zP.out | refine zd ?_ zQ.out) | exact HB.out)) hb)
        have n3_ := Aside0.mk (hbox)
        have n4_ := Aside0.mk ((by rw [hg]; exact (zm (by repeat (first | (with_reducible first | exact HB.out | apply zh | apply zf | apply zg | refine zd ?_ zP.out | refine zd ?_ zQ.out) | exact HB.out))) : w.heap.size ≤ zL))
        have n5_ := Aside0.mk ((by rw [hg]; exact (zm (by repeat (first | (with_reducible first | exact HB.out | apply zh | apply zf | apply zg | refine zd ?_ zP.out | refine zd ?_ zQ.out) | exact HB.out))) : w.heap.size ≤ zL))
        have n6_ := Aside0.mk ((by rw [hg]; exact Nat.ne_of_lt (zt (g := zE) (o := .cells #[.slice A0_0 l0_0.length c0_0] 45 (0, 0)) (BL zB.out)) : zE ≠ zL))
        have n7_ := Aside0.mk ((by rw [hg]; exact Nat.ne_of_gt (zt (g := zE) (o := .cells #[.slice A0_0 l0_0.length c0_0] 45 (0, 0)) (BL zB.out)) : zL ≠ zE))
        have n8_ := Aside0.mk ((by rw [hg]; exact Nat.ne_of_lt (zt (g := zF) (o := .cells #[.int .i64 a1_0, .slice A1_1 l1_1.length c1_1] 48 (0, 0)) (BL zA.out)) : zF ≠ zL))
        have n9_ := Aside0.mk ((by rw [hg]; exact Nat.ne_of_gt (zt (g := zF) (o := .cells #[.int .i64 a1_0, .slice A1_1 l1_1.length c1_1] 48 (0, 0)) (BL zA.out)) : zL ≠ zF))
        clear zB
        clear zA
        clear HB
        have zB := n0_
        have zA := n1_
        have HB := n2_
        have zC := n3_
        have GW333 := n4_
        have zS := n5_
        have zib := n6_
        have zmb := n7_
        have zhb := n8_
        have znb := n9_
        clear n0_ n1_ n2_ n3_ n4_ n5_ n6_ n7_ n8_ n9_
        clear hb hbox hg
        refine hK.out _ _ ⟨(zc zB.out 0).trans rfl, (zc zA.out 0).trans rfl, (zc zA.out 1).trans rfl⟩ (fun hHeld => ?_)
        clear hK K
        refine norm_ (a' := ?_) ?_ ?_
        rotate_left
        ·show Act.put _ (some 6) _ = _
         simp only [pt, ps, p0, p1, zo, zp]
         rfl
        refine one_ (i := 1) (N := some 25) #[true, true, true, false, false, true, false] rfl rfl (by kernel_rfl) (by decide) (fun K hK => ?_)
        refine goes_ Tryd.func19 (by kernel_rfl) rfl #[.agg #[.slice A0_0 l0_0.length c0_0]] (by rfl) rfl rfl (by (try simp only [List.map_toArray, List.map_cons, List.map_nil]); first | done | rfl) ?_
        with_reducible refine (laws_toTree.calls k _ _ l0_0 t323 _ ?side1 ?side2 A19.out).mono ?_
        (case side1 => repeat (first | exact (Kd.C_below HR0_0.out HB.out) | (with_reducible refine Kd.C_alloc ?_ _) | (with_reducible refine Kd.C_drewN ?_ _) | (with_reducible refine Kd.C_drew ?_)))
        (case side2 => exact HC0_0.out)
        rintro e w45 ⟨v324, rfl, zX, hb⟩
        refine ⟨_, rfl, ?_⟩
        have n0_ := Aside0.mk (Kd.R_lower zX (zm (by repeat (first | (with_reducible first | exact HB.out | apply zh | apply zf | apply zg | refine zd ?_ zP.out | refine zd ?_ zQ.out | refine zd ?_ zS.out) | exact HB.out))))
        have n1_ := Aside0.mk (zi (g := zE) (o := .cells #[.slice A0_0 l0_0.length c0_0] 45 (0, 0)) (BL zB.out) hb)
        have n2_ := Aside0.mk (zi (g := zF) (o := .cells #[.int .i64 a1_0, .slice A1_1 l1_1.length c1_1] 48 (0, 0)) (BL zA.out) hb)
        have n3_ := Aside0.mk (zi (g := zL) (o := .cells #[.slice none 0 0] 25 (0, 0)) (BL zC.out) hb)
        have n4_ := Aside0.mk (zn (by repeat (first | (with_reducible first | exact HB.out | apply zh | apply zf | apply zg | refine zd ?_ zP.out | refine zd ?_ zQ.out | refine zd ?_ zS.out) | exact HB.out)) hb)
        clear zB
        clear zA
        clear zC
        clear HB
        have zN := n0_
        have zB := n1_
        have zA := n2_
        have zC := n3_
        have HB := n4_
        clear n0_ n1_ n2_ n3_ n4_
        (try clear hb)
        (try clear hb2)
        (try clear hk)
        (try clear hi)
        (try clear zX)
        refine hK.out _ _ ⟨(zc zB.out 0).trans rfl, (zc zA.out 0).trans rfl, (zc zA.out 1).trans rfl⟩ (fun hHeld => ?_)
        clear hK K
        refine norm_ (a' := ?_) ?_ ?_
        rotate_left
        ·show Act.put _ (some 25) _ = _
         simp only [pt, ps, p0, p1, zo, zp]
         rfl
        refine one_ (i := 3) (N := some 27) #[true, true, true, true, false, true, false] rfl rfl (by kernel_rfl) (by decide) (fun K hK => ?_)
        refine goes_ Tryd.func20 (by kernel_rfl) rfl #[.agg #[.int .i64 a1_0, .slice A1_1 l1_1.length c1_1]] (by rfl) rfl rfl (by (try simp only [List.map_toArray, List.map_cons, List.map_nil]); first | done | rfl) ?_
        with_reducible refine (laws_toTxn.calls k a1_0 _ _ l1_1 t326 t327 _ ?side1 ?side2 A20.out).mono ?_
        (case side1 => repeat (first | exact (Kd.C_below HR1_1.out HB.out) | (with_reducible refine Kd.C_alloc ?_ _) | (with_reducible refine Kd.C_drewN ?_ _) | (with_reducible refine Kd.C_drew ?_)))
        (case side2 => exact HC1_1.out)
        rintro e w46 ⟨v328, rfl, zX, hb⟩
        refine ⟨_, rfl, ?_⟩
        have n0_ := Aside0.mk (Kd.R_below (RL zN.out) hb)
        have n1_ := Aside0.mk (Kd.R_lower zX (zm (by repeat (first | (with_reducible first | exact HB.out | apply zh | apply zf | apply zg | refine zd ?_ zP.out | refine zd ?_ zQ.out | refine zd ?_ zS.out) | exact HB.out))))
        have n2_ := Aside0.mk (zi (g := zE) (o := .cells #[.slice A0_0 l0_0.length c0_0] 45 (0, 0)) (BL zB.out) hb)
        have n3_ := Aside0.mk (zi (g := zF) (o := .cells #[.int .i64 a1_0, .slice A1_1 l1_1.length c1_1] 48 (0, 0)) (BL zA.out) hb)
        have n4_ := Aside0.mk (zi (g := zL) (o := .cells #[.slice none 0 0] 25 (0, 0)) (BL zC.out) hb)
        have n5_ := Aside0.mk (zn (by repeat (first | (with_reducible first | exact HB.out | apply zh | apply zf | apply zg | refine zd ?_ zP.out | refine zd ?_ zQ.out | refine zd ?_ zS.out) | exact HB.out)) hb)
        clear zN
        clear zB
        clear zA
        clear zC
        clear HB
        have zN := n0_
        have zR := n1_
        have zB := n2_
        have zA := n3_
        have zC := n4_
        have HB := n5_
        clear n0_ n1_ n2_ n3_ n4_ n5_
        (try clear hb)
        (try clear hb2)
        (try clear hk)
        (try clear hi)
        (try clear zX)
        obtain ⟨Ao47, co47, eo47⟩ := Kd.R_slice zN.out
        (first | subst eo47 | (injection eo47 with f1_ f2_ f3_; have f4_ := f1_.symm; have f5_ := f3_.symm; clear f1_ f2_ f3_; subst f4_; subst f5_))
        obtain ⟨Ao48, co48, eo48⟩ := Kd.R_slice zR.out
        (first | subst eo48 | (injection eo48 with f1_ f2_ f3_; have f4_ := f1_.symm; have f5_ := f3_.symm; clear f1_ f2_ f3_; subst f4_; subst f5_))
        refine hK.out _ _ ⟨(zc zB.out 0).trans rfl, (zc zA.out 0).trans rfl, (zc zA.out 1).trans rfl⟩ (fun hHeld => ?_)
        clear hK K
        refine norm_ (a' := ?_) ?_ ?_
        rotate_left
        ·show Act.put _ (some 27) _ = _
         simp only [pt, ps, p0, p1, zo, zp]
         rfl
        refine one_ (i := 4) (N := some 28) #[true, true, true, true, true, true, false] rfl rfl (by kernel_rfl) (by decide) (fun K hK => ?_)
        refine goes_ Tryd.func18 (by kernel_rfl) rfl #[.agg #[.slice Ao47 t323.length co47], .agg #[.int .i64 t326, .slice Ao48 t327.length co48]] (by rfl) rfl rfl (by (try simp only [List.map_toArray, List.map_cons, List.map_nil]); first | done | rfl) ?_
        with_reducible refine (spec_ApplyTxn.calls k _ _ t323 t326 _ _ t327 t330 _ ?side1 ?side2 ?side3 ?side4 A21.out).mono ?_
        (case side1 => repeat (first | exact (Kd.R_reads' zN.out).2.2 | (with_reducible refine Kd.C_alloc ?_ _) | (with_reducible refine Kd.C_drewN ?_ _) | (with_reducible refine Kd.C_drew ?_)))
        (case side2 => exact (Kd.R_reads' zN.out).2.1)
        (case side3 => repeat (first | exact (Kd.R_reads' zR.out).2.2 | (with_reducible refine Kd.C_alloc ?_ _) | (with_reducible refine Kd.C_drewN ?_ _) | (with_reducible refine Kd.C_drew ?_)))
        (case side4 => exact (Kd.R_reads' zR.out).2.1)
        rintro e w49 ⟨v331, rfl, zX, hb⟩
        refine ⟨_, rfl, ?_⟩
        have n0_ := Aside0.mk (Kd.R_elder' (RL zN.out) (Kd.R_base zX) hb)
        have n1_ := Aside0.mk (Kd.R_below (RL zR.out) hb)
        have n2_ := Aside0.mk (Kd.R_lower (Kd.R_new' zX (Kd.R_lt (RL zN.out))) (zm (by repeat (first | (with_reducible first | exact HB.out | apply zh | apply zf | apply zg | refine zd ?_ zP.out | refine zd ?_ zQ.out | refine zd ?_ zS.out) | exact HB.out))))
        have n3_ := Aside0.mk (zi (g := zE) (o := .cells #[.slice A0_0 l0_0.length c0_0] 45 (0, 0)) (BL zB.out) hb)
        have n4_ := Aside0.mk (zi (g := zF) (o := .cells #[.int .i64 a1_0, .slice A1_1 l1_1.length c1_1] 48 (0, 0)) (BL zA.out) hb)
        have n5_ := Aside0.mk (zi (g := zL) (o := .cells #[.slice none 0 0] 25 (0, 0)) (BL zC.out) hb)
        have n6_ := Aside0.mk (zn (by repeat (first | (with_reducible first | exact HB.out | apply zh | apply zf | apply zg | refine zd ?_ zP.out | refine zd ?_ zQ.out | refine zd ?_ zS.out) | exact HB.out)) hb)
        clear zN
        clear zR
        clear zB
        clear zA
        clear zC
        clear HB
        have zN := n0_
        have zR := n1_
        have zV := n2_
        have zB := n3_
        have zA := n4_
        have zC := n5_
        have HB := n6_
        clear n0_ n1_ n2_ n3_ n4_ n5_ n6_
        (try clear hb)
        (try clear hb2)
        (try clear hk)
        (try clear hi)
        (try clear zX)
        refine hK.out _ _ ⟨(zc zB.out 0).trans rfl, (zc zA.out 0).trans rfl, (zc zA.out 1).trans rfl⟩ (fun hHeld => ?_)
        clear hK K
        refine norm_ (a' := ?_) ?_ ?_
        rotate_left
        ·show Act.put _ (some 28) _ = _
         simp only [pt, ps, p0, p1, zo, zp]
         rfl
        exact norm_ (by simp only [putAll, Act.put, List.setIfInBounds_toArray, List.set_cons_zero, List.set_cons_succ]) (hCont (.slice Ao47 t323.length co47, .slice Ao48 t327.length co48, v331, zL) _ ⟨hHeld, (by exact RL (Kd.R_mono zN.out (fun _ hk => hk.2))), (by exact RL zR.out), (by exact RL (Kd.R_mono zV.out (fun _ hk => hk.2))), (by exact BL zB.out), (by exact BL zA.out), (by exact BL zC.out), GW333.out, zS.out, zib.out, zmb.out, zhb.out, znb.out, (by repeat (first | (with_reducible first | exact HB.out | apply zh | apply zf | apply zg | refine zd ?_ zP.out | refine zd ?_ zQ.out | refine zd ?_ zS.out) | exact HB.out))⟩)
      rintro ⟨v324, v328, v331, zL⟩ w50 ⟨hS_, h0_, h1_, h2_, h3_, h4_, h5_, h6_, h7_, h8_, h9_, h10_, h11_, h12_⟩
      have n0_ : Aside0 (Kd.R k77 77 w50 w.heap.size (fun k_ => some k_ ≠ (v331 : Value).ownBlock) v324 t323) := ⟨h0_⟩
      have n1_ : Aside0 (Kd.R k108 108 w50 w.heap.size (fun _ => True) v328 t327) := ⟨h1_⟩
      have n2_ : Aside0 (Kd.R k77 77 w50 w.heap.size (fun k_ => some k_ ≠ (v324 : Value).ownBlock) v331 t330) := ⟨h2_⟩
      have n3_ : Aside0 (w50.heap[zE]? = some (.cells #[.slice A0_0 l0_0.length c0_0] 45 (0, 0))) := ⟨h3_⟩
      have n4_ : Aside0 (w50.heap[zF]? = some (.cells #[.int .i64 a1_0, .slice A1_1 l1_1.length c1_1] 48 (0, 0))) := ⟨h4_⟩
      have n5_ : Aside0 (w50.heap[zL]? = some (.cells #[.slice none 0 0] 25 (0, 0))) := ⟨h5_⟩
      have n6_ : Aside0 (w.heap.size ≤ zL) := ⟨h6_⟩
      have n7_ : Aside0 (w.heap.size ≤ zL) := ⟨h7_⟩
      have n8_ : Aside0 (zE ≠ zL) := ⟨h8_⟩
      have n9_ : Aside0 (zL ≠ zE) := ⟨h9_⟩
      have n10_ : Aside0 (zF ≠ zL) := ⟨h10_⟩
      have n11_ : Aside0 (zL ≠ zF) := ⟨h11_⟩
      have n12_ : Aside0 (Below w.heap.size w w50) := ⟨h12_⟩
      clear zB
      clear zA
      clear HB
      clear h0_ h1_ h2_ h3_ h4_ h5_ h6_ h7_ h8_ h9_ h10_ h11_ h12_
      have zN := n0_
      have zR := n1_
      have zV := n2_
      have zB := n3_
      have zA := n4_
      have zC := n5_
      have GW333 := n6_
      have zS := n7_
      have zib := n8_
      have zmb := n9_
      have zhb := n10_
      have znb := n11_
      have HB := n12_
      clear n0_ n1_ n2_ n3_ n4_ n5_ n6_ n7_ n8_ n9_ n10_ n11_ n12_
      have hHeld : w50.cell? ⟨zE, 0, none⟩ = some (.slice A0_0 l0_0.length c0_0) ∧ w50.cell? ⟨zF, 0, none⟩ = some (.int .i64 a1_0) ∧ w50.cell? ⟨zF, 1, none⟩ = some (.slice A1_1 l1_1.length c1_1) := hS_
      obtain ⟨Ao51, co51, eo51⟩ := Kd.R_slice zV.out
      (first | subst eo51 | (injection eo51 with f1_ f2_ f3_; have f4_ := f1_.symm; have f5_ := f3_.symm; clear f1_ f2_ f3_; subst f4_; subst f5_))
      refine norm_ (a' := ?_) ?_ ?_
      rotate_left
      ·simp only [putAll, Act.put, List.setIfInBounds_toArray, List.set_cons_zero, List.set_cons_succ]
       rfl
      refine one_ (i := 6) (N := none) #[true, true, true, true, true, true, true] rfl rfl (by kernel_rfl) (by decide) (fun K hK => ?_)
      have hs52 : w50.cell? ⟨zL, 0, none⟩ = some (.slice none 0 0) := (zc zC.out 0).trans rfl
      have hfs52 := ze zC.out 0
      have hns52_0 := zib.out
      have hns52_1 := zhb.out
      have hms52_0 := zmb.out
      have hms52_1 := znb.out
      refine skip_ (w1 := ?_) (by rfl) rfl ?_ ?_
      rotate_left
      ·go_simp
       rfl
      refine hK.out _ _ ⟨((cell_far (p := ⟨zL, _, none⟩) zib.out _).trans (hHeld.1)), ((cell_far (p := ⟨zL, _, none⟩) zhb.out _).trans (hHeld.2.1)), ((cell_far (p := ⟨zL, _, none⟩) zhb.out _).trans (hHeld.2.2))⟩ (fun hHeld => ?_)
      clear hK K
      refine done_ (by kernel_rfl) ?_
      have zVd := zib.out
      have zWd := zmb.out
      have zfc : w50.cell? ⟨zE, 0, none⟩ = some (.slice A0_0 l0_0.length c0_0) := (zc zB.out 0).trans rfl
      have zgc := ze zB.out 0
      try go_wp2_with (first | ((with_reducible refine zr (f := 19) rfl ?_); have y0_ := Aside0.mk (Kd.R_mono (Kd.R_far (p := ⟨zL, 0, none⟩) (Kd.R_types zN.out zC.out (by decide)) (fun _ hk => hk.2) (.slice Ao51 t330.length co51)) (fun _ h_ => h_.1)); have y2_ := Aside0.mk (Kd.R_mono (Kd.R_far (p := ⟨zL, 0, none⟩) (Kd.R_types zV.out zC.out (by decide)) (fun _ hk => hk.2) (.slice Ao51 t330.length co51)) (fun _ h_ => h_.1)); refine zz (some 30) rfl rfl Tryd.func19 (by kernel_rfl) rfl #[.agg #[.slice A0_0 l0_0.length c0_0]] rfl (by (try simp only [List.map_toArray, List.map_cons, List.map_nil]); first | done | rfl) ?_; (with_reducible refine (laws_toTree.calls k _ _ l0_0 t334 _ ?side1 ?side2 A22.out).mono ?_); (case side1 => exact Kd.C_below HR0_0.out (by repeat (first | (with_reducible first | exact HB.out | apply zh | apply zf | apply zg | refine zd ?_ zP.out | refine zd ?_ zQ.out | refine zd ?_ zS.out) | exact HB.out))); (case side2 => exact HC0_0.out); rintro e w55 ⟨v335, rfl, zX, hb⟩; refine ⟨_, rfl, ?_⟩; have n0_ := Aside0.mk (Kd.R_elder' (RL y0_.out) (Kd.R_base zX) hb); have n1_ := Aside0.mk (Kd.R_below (RL ((Kd.R_mono (Kd.R_far (p := ⟨zL, 0, none⟩) (Kd.R_types zR.out zC.out (by decide)) (fun _ hk => hk.2) (.slice Ao51 t330.length co51)) (fun _ h_ => h_.1)))) hb); have n2_ := Aside0.mk (Kd.R_elder' (RL y2_.out) (Kd.R_base zX) hb); have n3_ := Aside0.mk (Kd.R_lower (Kd.R_new' (Kd.R_new' zX (Kd.R_lt (RL y0_.out))) (Kd.R_lt (RL y2_.out))) (zm (by repeat (first | (with_reducible first | exact HB.out | apply zh | apply zf | apply zg | refine zd ?_ zP.out | refine zd ?_ zQ.out | refine zd ?_ zS.out) | exact HB.out)))); have n4_ := Aside0.mk (zi (g := zE) (o := .cells #[.slice A0_0 l0_0.length c0_0] 45 (0, 0)) (by (with_reducible repeat (first | refine zk ?_ _ | refine zl ?_ | refine zj ?_ _)); refine zw ?_ zib.out _; (with_reducible repeat (first | refine zk ?_ _ | refine zl ?_ | refine zj ?_ _)); exact zB.out) hb); have n5_ := Aside0.mk (zi (g := zF) (o := .cells #[.int .i64 a1_0, .slice A1_1 l1_1.length c1_1] 48 (0, 0)) (by (with_reducible repeat (first | refine zk ?_ _ | refine zl ?_ | refine zj ?_ _)); refine zw ?_ zhb.out _; (with_reducible repeat (first | refine zk ?_ _ | refine zl ?_ | refine zj ?_ _)); exact zA.out) hb); have n6_ := Aside0.mk (zi (g := zL) (o := .cells #[.slice Ao51 t330.length co51] 25 (0, 0)) (by (with_reducible repeat (first | refine zk ?_ _ | refine zl ?_ | refine zj ?_ _)); refine zv (cs := #[.slice none 0 0]) ?_ 0 _ rfl; (with_reducible repeat (first | refine zk ?_ _ | refine zl ?_ | refine zj ?_ _)); exact zC.out) hb); have n7_ := Aside0.mk (zn (by repeat (first | (with_reducible first | exact HB.out | apply zh | apply zf | apply zg | refine zd ?_ zP.out | refine zd ?_ zQ.out | refine zd ?_ zS.out) | exact HB.out)) hb); clear zN; clear zR; clear zV; clear zB; clear zA; clear zC; clear HB; have zN := n0_; have zR := n1_; have zV := n2_; have zY := n3_; have zB := n4_; have zA := n5_; have zC := n6_; have HB := n7_; clear n0_ n1_ n2_ n3_ n4_ n5_ n6_ n7_; (try clear hb); (try clear hb2); (try clear hk); (try clear hi); (try clear zX); (try clear y0_ y2_)) | ((with_reducible refine zu (N := 7) rfl ?_); refine zy ?hg (N := 7) ?hd (cs := #[.slice none 0 0]) (t := 25) ?hr ?_; (case hd => rfl); (case hg => rfl); (case hr => first | (go_simp; done) | (go_simp; rfl)); intro zU hg w56 hbox hb; have n0_ := Aside0.mk (Kd.R_below (RL zN.out) hb); have n1_ := Aside0.mk (Kd.R_below (RL zR.out) hb); have n2_ := Aside0.mk (Kd.R_below (RL zV.out) hb); have n3_ := Aside0.mk (Kd.R_below (RL zY.out) hb); have n4_ := Aside0.mk (zi (g := zE) (o := .cells #[.slice A0_0 l0_0.length c0_0] 45 (0, 0)) (BL zB.out) hb); have n5_ := Aside0.mk (zi (g := zF) (o := .cells #[.int .i64 a1_0, .slice A1_1 l1_1.length c1_1] 48 (0, 0)) (BL zA.out) hb); have n6_ := Aside0.mk (zi (g := zL) (o := .cells #[.slice Ao51 t330.length co51] 25 (0, 0)) (BL zC.out) hb); have n7_ := Aside0.mk (zn (by exact bl HB.out) hb); have n8_ := Aside0.mk (hbox); have n9_ := Aside0.mk ((by rw [hg]; exact (zm (by exact bl HB.out)) : w.heap.size ≤ zU)); have n10_ := Aside0.mk ((by rw [hg]; exact (zm (by exact bl HB.out)) : w.heap.size ≤ zU)); have n11_ := Aside0.mk ((by rw [hg]; exact Nat.ne_of_lt (zt (g := zE) (o := .cells #[.slice A0_0 l0_0.length c0_0] 45 (0, 0)) (BL zB.out)) : zE ≠ zU)); have n12_ := Aside0.mk ((by rw [hg]; exact Nat.ne_of_gt (zt (g := zE) (o := .cells #[.slice A0_0 l0_0.length c0_0] 45 (0, 0)) (BL zB.out)) : zU ≠ zE)); have n13_ := Aside0.mk ((by rw [hg]; exact Nat.ne_of_lt (zt (g := zF) (o := .cells #[.int .i64 a1_0, .slice A1_1 l1_1.length c1_1] 48 (0, 0)) (BL zA.out)) : zF ≠ zU)); have n14_ := Aside0.mk ((by rw [hg]; exact Nat.ne_of_gt (zt (g := zF) (o := .cells #[.int .i64 a1_0, .slice A1_1 l1_1.length c1_1] 48 (0, 0)) (BL zA.out)) : zU ≠ zF)); have n15_ := Aside0.mk ((by rw [hg]; exact Nat.ne_of_lt (zt (g := zL) (o := .cells #[.slice Ao51 t330.length co51] 25 (0, 0)) (BL zC.out)) : zL ≠ zU)); have n16_ := Aside0.mk ((by rw [hg]; exact Nat.ne_of_gt (zt (g := zL) (o := .cells #[.slice Ao51 t330.length co51] 25 (0, 0)) (BL zC.out)) : zU ≠ zL)); clear zN; clear zR; clear zV; clear zY; clear zB; clear zA; clear zC; clear HB; have zN := n0_; have zR := n1_; have zV := n2_; have zY := n3_; have zB := n4_; have zA := n5_; have zC := n6_; have HB := n7_; have zG := n8_; have GW337 := n9_; have zbb := n10_; have zUb := n11_; have zWb := n12_; have zVb := n13_; have zXb := n14_; have zEb := n15_; have zKb := n16_; clear n0_ n1_ n2_ n3_ n4_ n5_ n6_ n7_ n8_ n9_ n10_ n11_ n12_ n13_ n14_ n15_ n16_; clear hb hbox hg; obtain ⟨Ao57, co57, eo57⟩ := Kd.R_slice zY.out; subst eo57; have zXd := zWb.out; have zYd := zUb.out; have zZd := zXb.out; have zae := zVb.out; have zbe := zKb.out; have zce := zEb.out; have zhc : w56.cell? ⟨zU, 0, none⟩ = some (.slice none 0 0) := (zc zG.out 0).trans rfl; have zic := ze zG.out 0; have zde := zhb.out; have zee := znb.out; have zjc : w56.cell? ⟨zF, 0, none⟩ = some (.int .i64 a1_0) := (zc zA.out 0).trans rfl; have zkc : w56.cell? ⟨zF, 1, none⟩ = some (.slice A1_1 l1_1.length c1_1) := (zc zA.out 1).trans rfl; have zlc := ze zA.out 0; have zmc := ze zA.out 1) | ((with_reducible refine zr (f := 20) rfl ?_); have y1_ := Aside0.mk (Kd.R_mono (Kd.R_far (p := ⟨zU, 0, none⟩) (Kd.R_types zR.out zG.out (by decide)) (fun _ hk => hk.2) (.slice Ao57 t334.length co57)) (fun _ h_ => h_.1)); refine zz (some 32) rfl rfl Tryd.func20 (by kernel_rfl) rfl #[.agg #[.int .i64 a1_0, .slice A1_1 l1_1.length c1_1]] rfl (by (try simp only [List.map_toArray, List.map_cons, List.map_nil]); first | done | rfl) ?_; (with_reducible refine (laws_toTxn.calls k a1_0 _ _ l1_1 t338 t339 _ ?side1 ?side2 A23.out).mono ?_); (case side1 => exact Kd.C_below HR1_1.out (by repeat (first | (with_reducible first | exact HB.out | apply zh | apply zf | apply zg | refine zd ?_ zP.out | refine zd ?_ zQ.out | refine zd ?_ zS.out | refine zd ?_ zbb.out) | exact HB.out))); (case side2 => exact HC1_1.out); rintro e w64 ⟨v340, rfl, zX, hb⟩; refine ⟨_, rfl, ?_⟩; have n0_ := Aside0.mk (Kd.R_below (RL ((Kd.R_mono (Kd.R_far (p := ⟨zU, 0, none⟩) (Kd.R_types zN.out zG.out (by decide)) (fun _ hk => hk.2) (.slice Ao57 t334.length co57)) (fun _ h_ => h_.1)))) hb); have n1_ := Aside0.mk (Kd.R_elder' (RL y1_.out) (Kd.R_base zX) hb); have n2_ := Aside0.mk (Kd.R_below (RL ((Kd.R_mono (Kd.R_far (p := ⟨zU, 0, none⟩) (Kd.R_types zV.out zG.out (by decide)) (fun _ hk => hk.2) (.slice Ao57 t334.length co57)) (fun _ h_ => h_.1)))) hb); have n3_ := Aside0.mk (Kd.R_below (RL ((Kd.R_mono (Kd.R_far (p := ⟨zU, 0, none⟩) (Kd.R_types zY.out zG.out (by decide)) (fun _ hk => hk.2) (.slice Ao57 t334.length co57)) (fun _ h_ => h_.1)))) hb); have n4_ := Aside0.mk (Kd.R_lower (Kd.R_new' zX (Kd.R_lt (RL y1_.out))) (zm (by repeat (first | (with_reducible first | exact HB.out | apply zh | apply zf | apply zg | refine zd ?_ zP.out | refine zd ?_ zQ.out | refine zd ?_ zS.out | refine zd ?_ zbb.out) | exact HB.out)))); have n5_ := Aside0.mk (zi (g := zE) (o := .cells #[.slice A0_0 l0_0.length c0_0] 45 (0, 0)) (by (with_reducible repeat (first | refine zk ?_ _ | refine zl ?_ | refine zj ?_ _)); refine zw ?_ zUb.out _; (with_reducible repeat (first | refine zk ?_ _ | refine zl ?_ | refine zj ?_ _)); exact zB.out) hb); have n6_ := Aside0.mk (zi (g := zF) (o := .cells #[.int .i64 a1_0, .slice A1_1 l1_1.length c1_1] 48 (0, 0)) (by (with_reducible repeat (first | refine zk ?_ _ | refine zl ?_ | refine zj ?_ _)); refine zw ?_ zVb.out _; (with_reducible repeat (first | refine zk ?_ _ | refine zl ?_ | refine zj ?_ _)); exact zA.out) hb); have n7_ := Aside0.mk (zi (g := zL) (o := .cells #[.slice Ao51 t330.length co51] 25 (0, 0)) (by (with_reducible repeat (first | refine zk ?_ _ | refine zl ?_ | refine zj ?_ _)); refine zw ?_ zEb.out _; (with_reducible repeat (first | refine zk ?_ _ | refine zl ?_ | refine zj ?_ _)); exact zC.out) hb); have n8_ := Aside0.mk (zi (g := zU) (o := .cells #[.slice Ao57 t334.length co57] 25 (0, 0)) (by (with_reducible repeat (first | refine zk ?_ _ | refine zl ?_ | refine zj ?_ _)); refine zv (cs := #[.slice none 0 0]) ?_ 0 _ rfl; (with_reducible repeat (first | refine zk ?_ _ | refine zl ?_ | refine zj ?_ _)); exact zG.out) hb); have n9_ := Aside0.mk (zn (by repeat (first | (with_reducible first | exact HB.out | apply zh | apply zf | apply zg | refine zd ?_ zP.out | refine zd ?_ zQ.out | refine zd ?_ zS.out | refine zd ?_ zbb.out) | exact HB.out)) hb); clear zN; clear zR; clear zV; clear zY; clear zB; clear zA; clear zC; clear zG; clear HB; have zN := n0_; have zR := n1_; have zV := n2_; have zY := n3_; have zZ := n4_; have zB := n5_; have zA := n6_; have zC := n7_; have zG := n8_; have HB := n9_; clear n0_ n1_ n2_ n3_ n4_ n5_ n6_ n7_ n8_ n9_; (try clear hb); (try clear hb2); (try clear hk); (try clear hi); (try clear zX); (try clear y1_)) | ((with_reducible refine zu (N := 8) rfl ?_); refine zy ?hg (N := 8) ?hd (cs := #[.int .i64 0, .slice none 0 0]) (t := 55) ?hr ?_; (case hd => rfl); (case hg => rfl); (case hr => first | (go_simp; done) | (go_simp; rfl)); intro zT hg w65 hbox hb; have n0_ := Aside0.mk (Kd.R_below (RL zN.out) hb); have n1_ := Aside0.mk (Kd.R_below (RL zR.out) hb); have n2_ := Aside0.mk (Kd.R_below (RL zV.out) hb); have n3_ := Aside0.mk (Kd.R_below (RL zY.out) hb); have n4_ := Aside0.mk (Kd.R_below (RL zZ.out) hb); have n5_ := Aside0.mk (zi (g := zE) (o := .cells #[.slice A0_0 l0_0.length c0_0] 45 (0, 0)) (BL zB.out) hb); have n6_ := Aside0.mk (zi (g := zF) (o := .cells #[.int .i64 a1_0, .slice A1_1 l1_1.length c1_1] 48 (0, 0)) (BL zA.out) hb); have n7_ := Aside0.mk (zi (g := zL) (o := .cells #[.slice Ao51 t330.length co51] 25 (0, 0)) (BL zC.out) hb); have n8_ := Aside0.mk (zi (g := zU) (o := .cells #[.slice Ao57 t334.length co57] 25 (0, 0)) (BL zG.out) hb); have n9_ := Aside0.mk (zn (by exact bl HB.out) hb); have n10_ := Aside0.mk (hbox); have n11_ := Aside0.mk ((by rw [hg]; exact (zm (by exact bl HB.out)) : w.heap.size ≤ zT)); have n12_ := Aside0.mk ((by rw [hg]; exact (zm (by exact bl HB.out)) : w.heap.size ≤ zT)); have n13_ := Aside0.mk ((by rw [hg]; exact Nat.ne_of_lt (zt (g := zE) (o := .cells #[.slice A0_0 l0_0.length c0_0] 45 (0, 0)) (BL zB.out)) : zE ≠ zT)); have n14_ := Aside0.mk ((by rw [hg]; exact Nat.ne_of_gt (zt (g := zE) (o := .cells #[.slice A0_0 l0_0.length c0_0] 45 (0, 0)) (BL zB.out)) : zT ≠ zE)); have n15_ := Aside0.mk ((by rw [hg]; exact Nat.ne_of_lt (zt (g := zF) (o := .cells #[.int .i64 a1_0, .slice A1_1 l1_1.length c1_1] 48 (0, 0)) (BL zA.out)) : zF ≠ zT)); have n16_ := Aside0.mk ((by rw [hg]; exact Nat.ne_of_gt (zt (g := zF) (o := .cells #[.int .i64 a1_0, .slice A1_1 l1_1.length c1_1] 48 (0, 0)) (BL zA.out)) : zT ≠ zF)); have n17_ := Aside0.mk ((by rw [hg]; exact Nat.ne_of_lt (zt (g := zL) (o := .cells #[.slice Ao51 t330.length co51] 25 (0, 0)) (BL zC.out)) : zL ≠ zT)); have n18_ := Aside0.mk ((by rw [hg]; exact Nat.ne_of_gt (zt (g := zL) (o := .cells #[.slice Ao51 t330.length co51] 25 (0, 0)) (BL zC.out)) : zT ≠ zL)); have n19_ := Aside0.mk ((by rw [hg]; exact Nat.ne_of_lt (zt (g := zU) (o := .cells #[.slice Ao57 t334.length co57] 25 (0, 0)) (BL zG.out)) : zU ≠ zT)); have n20_ := Aside0.mk ((by rw [hg]; exact Nat.ne_of_gt (zt (g := zU) (o := .cells #[.slice Ao57 t334.length co57] 25 (0, 0)) (BL zG.out)) : zT ≠ zU)); clear zN; clear zR; clear zV; clear zY; clear zZ; clear zB; clear zA; clear zC; clear zG; clear HB; have zN := n0_; have zR := n1_; have zV := n2_; have zY := n3_; have zZ := n4_; have zB := n5_; have zA := n6_; have zC := n7_; have zG := n8_; have HB := n9_; have zH := n10_; have GW342 := n11_; have zcb := n12_; have zLb := n13_; have zYb := n14_; have zMb := n15_; have zZb := n16_; have zDb := n17_; have zNb := n18_; have zOb := n19_; have zac := n20_; clear n0_ n1_ n2_ n3_ n4_ n5_ n6_ n7_ n8_ n9_ n10_ n11_ n12_ n13_ n14_ n15_ n16_ n17_ n18_ n19_ n20_; clear hb hbox hg; have zfe := zYb.out; have zge := zLb.out; have zhe := zZb.out; have zie := zMb.out; have zje := zNb.out; have zke := zDb.out; have zle := zac.out; have zme := zOb.out; have znc : w65.cell? ⟨zT, 0, none⟩ = some (.int .i64 0) := (zc zH.out 0).trans rfl; have zoc : w65.cell? ⟨zT, 1, none⟩ = some (.slice none 0 0) := (zc zH.out 1).trans rfl; have zpc := ze zH.out 0; have zqc := ze zH.out 1; obtain ⟨Ao71, co71, eo71⟩ := Kd.R_slice zZ.out; subst eo71; have zrc : w65.cell? ⟨zU, 0, none⟩ = some (.slice Ao57 t334.length co57) := (zc zG.out 0).trans rfl; have zsc := ze zG.out 0) | ((with_reducible refine zr (f := 21) rfl ?_); have y0_ := Aside0.mk (Kd.R_mono (Kd.R_far (p := ⟨zT, 1, none⟩) (Kd.R_far (p := ⟨zT, 0, none⟩) (Kd.R_types zY.out zH.out (by decide)) (fun _ hk => hk.2) (.int .i64 t338)) (fun _ hk => hk.2) (.slice Ao71 t339.length co71)) (fun _ h_ => h_.1)); have y1_ := Aside0.mk (Kd.R_mono (Kd.R_far (p := ⟨zT, 1, none⟩) (Kd.R_far (p := ⟨zT, 0, none⟩) (Kd.R_types zZ.out zH.out (by decide)) (fun _ hk => hk.2) (.int .i64 t338)) (fun _ hk => hk.2) (.slice Ao71 t339.length co71)) (fun _ h_ => h_.1)); have y2_ := Aside0.mk (Kd.R_mono (Kd.R_far (p := ⟨zT, 1, none⟩) (Kd.R_far (p := ⟨zT, 0, none⟩) (Kd.R_types zN.out zH.out (by decide)) (fun _ hk => hk.2) (.int .i64 t338)) (fun _ hk => hk.2) (.slice Ao71 t339.length co71)) (fun _ h_ => h_.1)); have y4_ := Aside0.mk (Kd.R_mono (Kd.R_far (p := ⟨zT, 1, none⟩) (Kd.R_far (p := ⟨zT, 0, none⟩) (Kd.R_types zV.out zH.out (by decide)) (fun _ hk => hk.2) (.int .i64 t338)) (fun _ hk => hk.2) (.slice Ao71 t339.length co71)) (fun _ h_ => h_.1)); refine zz (some 35) rfl rfl Tryd.func21 (by kernel_rfl) rfl #[.agg #[.slice Ao57 t334.length co57], .agg #[.int .i64 t338, .slice Ao71 t339.length co71]] rfl (by (try simp only [List.map_toArray, List.map_cons, List.map_nil]); first | done | rfl) ?_; (with_reducible refine (impl_ApplyTxn.calls k _ _ t334 t338 _ _ t339 t343 _ ?side1 ?side2 ?side3 ?side4 A24.out ?globMAX_).mono ?_); (case globMAX_ => exact Go.Proofs.YtfiojiokmkiflaaDoorH.GFMAX.below HGMAX_.out (by repeat (first | (with_reducible first | exact HB.out | exact Below.refl _ _ | apply zh | apply zf | apply zg | refine zd ?_ (Aside0.out (by assumption))) | exact HB.out))); (case side1 => refine (Kd.R_reads' (e := 77) (base := w.heap.size) (ok := fun k_ => ((True ∧ some k_ ≠ (v324 : Value).ownBlock) ∧ some k_ ≠ (.slice Ao51 t330.length co51 : Value).ownBlock)) (n := t334.length) (c := co57) ?_).2.2; exact (RL y0_.out)); (case side2 => exact (Kd.R_reads' zY.out).2.1); (case side3 => refine (Kd.R_reads' (e := 108) (base := w.heap.size) (ok := fun k_ => (True ∧ some k_ ≠ (v328 : Value).ownBlock)) (n := t339.length) (c := co71) ?_).2.2; exact (RL y1_.out)); (case side4 => exact (Kd.R_reads' zZ.out).2.1); rintro e w73 ⟨v344, rfl, zX, hb⟩; refine ⟨_, rfl, ?_⟩; have n0_ := Aside0.mk (Kd.R_elder' (RL y2_.out) (Kd.R_base zX) hb); have n1_ := Aside0.mk (Kd.R_below (RL ((Kd.R_mono (Kd.R_far (p := ⟨zT, 1, none⟩) (Kd.R_far (p := ⟨zT, 0, none⟩) (Kd.R_types zR.out zH.out (by decide)) (fun _ hk => hk.2) (.int .i64 t338)) (fun _ hk => hk.2) (.slice Ao71 t339.length co71)) (fun _ h_ => h_.1)))) hb); have n2_ := Aside0.mk (Kd.R_elder' (RL y4_.out) (Kd.R_base zX) hb); have n3_ := Aside0.mk (Kd.R_elder' (RL y0_.out) (Kd.R_base zX) hb); have n4_ := Aside0.mk (Kd.R_below (RL y1_.out) hb); have n5_ := Aside0.mk (Kd.R_lower (Kd.R_new' (Kd.R_new' (Kd.R_new' zX (Kd.R_lt (RL y2_.out))) (Kd.R_lt (RL y4_.out))) (Kd.R_lt (RL y0_.out))) (zm (by repeat (first | (with_reducible first | exact HB.out | apply zh | apply zf | apply zg | refine zd ?_ zP.out | refine zd ?_ zQ.out | refine zd ?_ zS.out | refine zd ?_ zbb.out | refine zd ?_ zcb.out) | exact HB.out)))); have n6_ := Aside0.mk (zi (g := zE) (o := .cells #[.slice A0_0 l0_0.length c0_0] 45 (0, 0)) (by (with_reducible repeat (first | refine zk ?_ _ | refine zl ?_ | refine zj ?_ _)); refine zw ?_ zLb.out _; (with_reducible repeat (first | refine zk ?_ _ | refine zl ?_ | refine zj ?_ _)); refine zw ?_ zLb.out _; (with_reducible repeat (first | refine zk ?_ _ | refine zl ?_ | refine zj ?_ _)); exact zB.out) hb); have n7_ := Aside0.mk (zi (g := zF) (o := .cells #[.int .i64 a1_0, .slice A1_1 l1_1.length c1_1] 48 (0, 0)) (by (with_reducible repeat (first | refine zk ?_ _ | refine zl ?_ | refine zj ?_ _)); refine zw ?_ zMb.out _; (with_reducible repeat (first | refine zk ?_ _ | refine zl ?_ | refine zj ?_ _)); refine zw ?_ zMb.out _; (with_reducible repeat (first | refine zk ?_ _ | refine zl ?_ | refine zj ?_ _)); exact zA.out) hb); have n8_ := Aside0.mk (zi (g := zL) (o := .cells #[.slice Ao51 t330.length co51] 25 (0, 0)) (by (with_reducible repeat (first | refine zk ?_ _ | refine zl ?_ | refine zj ?_ _)); refine zw ?_ zDb.out _; (with_reducible repeat (first | refine zk ?_ _ | refine zl ?_ | refine zj ?_ _)); refine zw ?_ zDb.out _; (with_reducible repeat (first | refine zk ?_ _ | refine zl ?_ | refine zj ?_ _)); exact zC.out) hb); have n9_ := Aside0.mk (zi (g := zU) (o := .cells #[.slice Ao57 t334.length co57] 25 (0, 0)) (by (with_reducible repeat (first | refine zk ?_ _ | refine zl ?_ | refine zj ?_ _)); refine zw ?_ zOb.out _; (with_reducible repeat (first | refine zk ?_ _ | refine zl ?_ | refine zj ?_ _)); refine zw ?_ zOb.out _; (with_reducible repeat (first | refine zk ?_ _ | refine zl ?_ | refine zj ?_ _)); exact zG.out) hb); have n10_ := Aside0.mk (zi (g := zT) (o := .cells #[.int .i64 t338, .slice Ao71 t339.length co71] 55 (0, 0)) (by (with_reducible repeat (first | refine zk ?_ _ | refine zl ?_ | refine zj ?_ _)); refine zv (cs := #[.int .i64 t338, .slice none 0 0]) ?_ 1 _ rfl; (with_reducible repeat (first | refine zk ?_ _ | refine zl ?_ | refine zj ?_ _)); refine zv (cs := #[.int .i64 0, .slice none 0 0]) ?_ 0 _ rfl; (with_reducible repeat (first | refine zk ?_ _ | refine zl ?_ | refine zj ?_ _)); exact zH.out) hb); have n11_ := Aside0.mk (zn (by repeat (first | (with_reducible first | exact HB.out | apply zh | apply zf | apply zg | refine zd ?_ zP.out | refine zd ?_ zQ.out | refine zd ?_ zS.out | refine zd ?_ zbb.out | refine zd ?_ zcb.out) | exact HB.out)) hb); clear zN; clear zR; clear zV; clear zY; clear zZ; clear zB; clear zA; clear zC; clear zG; clear zH; clear HB; have zN := n0_; have zR := n1_; have zV := n2_; have zY := n3_; have zZ := n4_; have zeb := n5_; have zB := n6_; have zA := n7_; have zC := n8_; have zG := n9_; have zH := n10_; have HB := n11_; clear n0_ n1_ n2_ n3_ n4_ n5_ n6_ n7_ n8_ n9_ n10_ n11_; (try clear hb); (try clear hb2); (try clear hk); (try clear hi); (try clear zX); (try clear y0_ y1_ y2_ y4_)) | ((with_reducible refine zu (N := 9) rfl ?_); refine zy ?hg (N := 9) ?hd (cs := #[.slice none 0 0]) (t := 25) ?hr ?_; (case hd => rfl); (case hg => rfl); (case hr => first | (go_simp; done) | (go_simp; rfl)); intro zW hg w74 hbox hb; have n0_ := Aside0.mk (Kd.R_below (RL zN.out) hb); have n1_ := Aside0.mk (Kd.R_below (RL zR.out) hb); have n2_ := Aside0.mk (Kd.R_below (RL zV.out) hb); have n3_ := Aside0.mk (Kd.R_below (RL zY.out) hb); have n4_ := Aside0.mk (Kd.R_below (RL zZ.out) hb); have n5_ := Aside0.mk (Kd.R_below (RL zeb.out) hb); have n6_ := Aside0.mk (zi (g := zE) (o := .cells #[.slice A0_0 l0_0.length c0_0] 45 (0, 0)) (BL zB.out) hb); have n7_ := Aside0.mk (zi (g := zF) (o := .cells #[.int .i64 a1_0, .slice A1_1 l1_1.length c1_1] 48 (0, 0)) (BL zA.out) hb); have n8_ := Aside0.mk (zi (g := zL) (o := .cells #[.slice Ao51 t330.length co51] 25 (0, 0)) (BL zC.out) hb); have n9_ := Aside0.mk (zi (g := zU) (o := .cells #[.slice Ao57 t334.length co57] 25 (0, 0)) (BL zG.out) hb); have n10_ := Aside0.mk (zi (g := zT) (o := .cells #[.int .i64 t338, .slice Ao71 t339.length co71] 55 (0, 0)) (BL zH.out) hb); have n11_ := Aside0.mk (zn (by exact bl HB.out) hb); have n12_ := Aside0.mk (hbox); have n13_ := Aside0.mk ((by rw [hg]; exact (zm (by exact bl HB.out)) : w.heap.size ≤ zW)); have n14_ := Aside0.mk ((by rw [hg]; exact (zm (by exact bl HB.out)) : w.heap.size ≤ zW)); have n15_ := Aside0.mk ((by rw [hg]; exact Nat.ne_of_lt (zt (g := zE) (o := .cells #[.slice A0_0 l0_0.length c0_0] 45 (0, 0)) (BL zB.out)) : zE ≠ zW)); have n16_ := Aside0.mk ((by rw [hg]; exact Nat.ne_of_gt (zt (g := zE) (o := .cells #[.slice A0_0 l0_0.length c0_0] 45 (0, 0)) (BL zB.out)) : zW ≠ zE)); have n17_ := Aside0.mk ((by rw [hg]; exact Nat.ne_of_lt (zt (g := zF) (o := .cells #[.int .i64 a1_0, .slice A1_1 l1_1.length c1_1] 48 (0, 0)) (BL zA.out)) : zF ≠ zW)); have n18_ := Aside0.mk ((by rw [hg]; exact Nat.ne_of_gt (zt (g := zF) (o := .cells #[.int .i64 a1_0, .slice A1_1 l1_1.length c1_1] 48 (0, 0)) (BL zA.out)) : zW ≠ zF)); have n19_ := Aside0.mk ((by rw [hg]; exact Nat.ne_of_lt (zt (g := zL) (o := .cells #[.slice Ao51 t330.length co51] 25 (0, 0)) (BL zC.out)) : zL ≠ zW)); have n20_ := Aside0.mk ((by rw [hg]; exact Nat.ne_of_gt (zt (g := zL) (o := .cells #[.slice Ao51 t330.length co51] 25 (0, 0)) (BL zC.out)) : zW ≠ zL)); have n21_ := Aside0.mk ((by rw [hg]; exact Nat.ne_of_lt (zt (g := zU) (o := .cells #[.slice Ao57 t334.length co57] 25 (0, 0)) (BL zG.out)) : zU ≠ zW)); have n22_ := Aside0.mk ((by rw [hg]; exact Nat.ne_of_gt (zt (g := zU) (o := .cells #[.slice Ao57 t334.length co57] 25 (0, 0)) (BL zG.out)) : zW ≠ zU)); have n23_ := Aside0.mk ((by rw [hg]; exact Nat.ne_of_lt (zt (g := zT) (o := .cells #[.int .i64 t338, .slice Ao71 t339.length co71] 55 (0, 0)) (BL zH.out)) : zT ≠ zW)); have n24_ := Aside0.mk ((by rw [hg]; exact Nat.ne_of_gt (zt (g := zT) (o := .cells #[.int .i64 t338, .slice Ao71 t339.length co71] 55 (0, 0)) (BL zH.out)) : zW ≠ zT)); clear zN; clear zR; clear zV; clear zY; clear zZ; clear zeb; clear zB; clear zA; clear zC; clear zG; clear zH; clear HB; have zN := n0_; have zR := n1_; have zV := n2_; have zY := n3_; have zZ := n4_; have zeb := n5_; have zB := n6_; have zA := n7_; have zC := n8_; have zG := n9_; have zH := n10_; have HB := n11_; have zK := n12_; have GW346 := n13_; have zdb := n14_; have zFb := n15_; have zPb := n16_; have zGb := n17_; have zQb := n18_; have zHb := n19_; have zRb := n20_; have zIb := n21_; have zSb := n22_; have zJb := n23_; have zTb := n24_; clear n0_ n1_ n2_ n3_ n4_ n5_ n6_ n7_ n8_ n9_ n10_ n11_ n12_ n13_ n14_ n15_ n16_ n17_ n18_ n19_ n20_ n21_ n22_ n23_ n24_; clear hb hbox hg; obtain ⟨Ao75, co75, eo75⟩ := Kd.R_slice zeb.out; subst eo75; have zne := zPb.out; have zoe := zFb.out; have zpe := zQb.out; have zqe := zGb.out; have zre := zRb.out; have zse := zHb.out; have zte := zSb.out; have zue := zIb.out; have zve := zTb.out; have zwe := zJb.out; have ztc : w74.cell? ⟨zW, 0, none⟩ = some (.slice none 0 0) := (zc zK.out 0).trans rfl; have zuc := ze zK.out 0; have zvc : w74.cell? ⟨zL, 0, none⟩ = some (.slice Ao51 t330.length co51) := (zc zC.out 0).trans rfl; have zwc := ze zC.out 0) | ((with_reducible refine zr (f := 22) rfl ?_); have y0_ := Aside0.mk (Kd.R_mono (Kd.R_far (p := ⟨zW, 0, none⟩) (Kd.R_types zeb.out zK.out (by decide)) (fun _ hk => hk.2) (.slice Ao75 t343.length co75)) (fun _ h_ => h_.1)); have y1_ := Aside0.mk (Kd.R_mono (Kd.R_far (p := ⟨zW, 0, none⟩) (Kd.R_types zV.out zK.out (by decide)) (fun _ hk => hk.2) (.slice Ao75 t343.length co75)) (fun _ h_ => h_.1)); refine zz (some 38) rfl rfl Tryd.func22 (by kernel_rfl) rfl #[.agg #[.slice Ao75 t343.length co75], .agg #[.slice Ao51 t330.length co51]] rfl (by (try simp only [List.map_toArray, List.map_cons, List.map_nil]); first | done | rfl) ?_; (with_reducible refine (laws_eqTree.calls k _ _ t343 _ _ t330 true _ ?side1 ?side2 ?side3 ?side4 A25.out).mono ?_); (case side1 => refine (Kd.R_reads' (e := 77) (base := w.heap.size) (ok := fun k_ => (((True ∧ some k_ ≠ (v324 : Value).ownBlock) ∧ some k_ ≠ (.slice Ao51 t330.length co51 : Value).ownBlock) ∧ some k_ ≠ (.slice Ao57 t334.length co57 : Value).ownBlock)) (n := t343.length) (c := co75) ?_).2.2; exact (RL y0_.out)); (case side2 => exact (Kd.R_reads' zeb.out).2.1); (case side3 => refine (Kd.R_reads' (e := 77) (base := w.heap.size) (ok := fun k_ => ((some k_ ≠ (v324 : Value).ownBlock ∧ some k_ ≠ (.slice Ao57 t334.length co57 : Value).ownBlock) ∧ some k_ ≠ (.slice Ao75 t343.length co75 : Value).ownBlock)) (n := t330.length) (c := co51) ?_).2.2; exact (RL y1_.out)); (case side4 => exact (Kd.R_reads' zV.out).2.1); rintro e w83 ⟨rfl, hb⟩; refine ⟨_, rfl, ?_⟩; have n0_ := Aside0.mk (Kd.R_below (RL ((Kd.R_mono (Kd.R_far (p := ⟨zW, 0, none⟩) (Kd.R_types zN.out zK.out (by decide)) (fun _ hk => hk.2) (.slice Ao75 t343.length co75)) (fun _ h_ => h_.1)))) hb); have n1_ := Aside0.mk (Kd.R_below (RL ((Kd.R_mono (Kd.R_far (p := ⟨zW, 0, none⟩) (Kd.R_types zR.out zK.out (by decide)) (fun _ hk => hk.2) (.slice Ao75 t343.length co75)) (fun _ h_ => h_.1)))) hb); have n2_ := Aside0.mk (Kd.R_below (RL y1_.out) hb); have n3_ := Aside0.mk (Kd.R_below (RL ((Kd.R_mono (Kd.R_far (p := ⟨zW, 0, none⟩) (Kd.R_types zY.out zK.out (by decide)) (fun _ hk => hk.2) (.slice Ao75 t343.length co75)) (fun _ h_ => h_.1)))) hb); have n4_ := Aside0.mk (Kd.R_below (RL ((Kd.R_mono (Kd.R_far (p := ⟨zW, 0, none⟩) (Kd.R_types zZ.out zK.out (by decide)) (fun _ hk => hk.2) (.slice Ao75 t343.length co75)) (fun _ h_ => h_.1)))) hb); have n5_ := Aside0.mk (Kd.R_below (RL y0_.out) hb); have n6_ := Aside0.mk (zi (g := zE) (o := .cells #[.slice A0_0 l0_0.length c0_0] 45 (0, 0)) (by (with_reducible repeat (first | refine zk ?_ _ | refine zl ?_ | refine zj ?_ _)); refine zw ?_ zFb.out _; (with_reducible repeat (first | refine zk ?_ _ | refine zl ?_ | refine zj ?_ _)); exact zB.out) hb); have n7_ := Aside0.mk (zi (g := zF) (o := .cells #[.int .i64 a1_0, .slice A1_1 l1_1.length c1_1] 48 (0, 0)) (by (with_reducible repeat (first | refine zk ?_ _ | refine zl ?_ | refine zj ?_ _)); refine zw ?_ zGb.out _; (with_reducible repeat (first | refine zk ?_ _ | refine zl ?_ | refine zj ?_ _)); exact zA.out) hb); have n8_ := Aside0.mk (zi (g := zL) (o := .cells #[.slice Ao51 t330.length co51] 25 (0, 0)) (by (with_reducible repeat (first | refine zk ?_ _ | refine zl ?_ | refine zj ?_ _)); refine zw ?_ zHb.out _; (with_reducible repeat (first | refine zk ?_ _ | refine zl ?_ | refine zj ?_ _)); exact zC.out) hb); have n9_ := Aside0.mk (zi (g := zU) (o := .cells #[.slice Ao57 t334.length co57] 25 (0, 0)) (by (with_reducible repeat (first | refine zk ?_ _ | refine zl ?_ | refine zj ?_ _)); refine zw ?_ zIb.out _; (with_reducible repeat (first | refine zk ?_ _ | refine zl ?_ | refine zj ?_ _)); exact zG.out) hb); have n10_ := Aside0.mk (zi (g := zT) (o := .cells #[.int .i64 t338, .slice Ao71 t339.length co71] 55 (0, 0)) (by (with_reducible repeat (first | refine zk ?_ _ | refine zl ?_ | refine zj ?_ _)); refine zw ?_ zJb.out _; (with_reducible repeat (first | refine zk ?_ _ | refine zl ?_ | refine zj ?_ _)); exact zH.out) hb); have n11_ := Aside0.mk (zi (g := zW) (o := .cells #[.slice Ao75 t343.length co75] 25 (0, 0)) (by (with_reducible repeat (first | refine zk ?_ _ | refine zl ?_ | refine zj ?_ _)); refine zv (cs := #[.slice none 0 0]) ?_ 0 _ rfl; (with_reducible repeat (first | refine zk ?_ _ | refine zl ?_ | refine zj ?_ _)); exact zK.out) hb); have n12_ := Aside0.mk (zn (by repeat (first | (with_reducible first | exact HB.out | apply zh | apply zf | apply zg | refine zd ?_ zP.out | refine zd ?_ zQ.out | refine zd ?_ zS.out | refine zd ?_ zbb.out | refine zd ?_ zcb.out | refine zd ?_ zdb.out) | exact HB.out)) hb); clear zN; clear zR; clear zV; clear zY; clear zZ; clear zeb; clear zB; clear zA; clear zC; clear zG; clear zH; clear zK; clear HB; have zN := n0_; have zR := n1_; have zV := n2_; have zY := n3_; have zZ := n4_; have zeb := n5_; have zB := n6_; have zA := n7_; have zC := n8_; have zG := n9_; have zH := n10_; have zK := n11_; have HB := n12_; clear n0_ n1_ n2_ n3_ n4_ n5_ n6_ n7_ n8_ n9_ n10_ n11_ n12_; (try clear hb); (try clear hb2); (try clear hk); (try clear hi); (try clear y0_ y1_)))
      have n0_ := Aside0.mk (Kd.R_drew zN.out)
      have n1_ := Aside0.mk (Kd.R_drew zR.out)
      have n2_ := Aside0.mk (Kd.R_drew zV.out)
      have n3_ := Aside0.mk (Kd.R_drew zY.out)
      have n4_ := Aside0.mk (Kd.R_drew zZ.out)
      have n5_ := Aside0.mk (Kd.R_drew zeb.out)
      have n6_ := Aside0.mk (zl zB.out)
      have n7_ := Aside0.mk (zl zA.out)
      have n8_ := Aside0.mk (zl zC.out)
      have n9_ := Aside0.mk (zl zG.out)
      have n10_ := Aside0.mk (zl zH.out)
      have n11_ := Aside0.mk (zl zK.out)
      have n12_ := Aside0.mk (zg HB.out)
      clear zN
      clear zR
      clear zV
      clear zY
      clear zZ
      clear zeb
      clear zB
      clear zA
      clear zC
      clear zG
      clear zH
      clear zK
      clear HB
      have zN := n0_
      have zR := n1_
      have zV := n2_
      have zY := n3_
      have zZ := n4_
      have zeb := n5_
      have zB := n6_
      have zA := n7_
      have zC := n8_
      have zG := n9_
      have zH := n10_
      have zK := n11_
      have HB := n12_
      clear n0_ n1_ n2_ n3_ n4_ n5_ n6_ n7_ n8_ n9_ n10_ n11_ n12_
      refine start_ (n := 5) (S := fun w' => w'.cell? ⟨zU, 0, none⟩ = some (.slice Ao57 t334.length co57) ∧ w'.cell? ⟨zE, 0, none⟩ = some (.slice A0_0 l0_0.length c0_0)) (ds := []) #[false, false, false, false, false] (by kernel_rfl) rfl rfl ⟨(zc zG.out 0).trans rfl, (zc zB.out 0).trans rfl⟩ (fun hHeld => ?_)
      generalize w83.drew = w84 at zN zR zV zY zZ zeb zB zA zC zG zH zK HB hHeld ⊢
      refine ta 0 40 rfl rfl (by kernel_rfl) (fun _ _ _ _ h => h) (by rfl) hHeld ⟨_, _, by rintro w' ⟨s0, s1⟩; go_simp; rfl, by simp only [pt, ps, p0, p1, zo, zp]; rfl, ?_⟩
      refine ta 1 41 rfl rfl (by kernel_rfl) (fun _ _ _ _ h => h) (by rfl) hHeld ⟨_, _, by rintro w' ⟨s0, s1⟩; go_simp; rfl, by simp only [pt, ps, p0, p1, zo, zp]; rfl, ?_⟩
      refine one_ (i := 2) (N := some 42) #[true, true, true, false, false] rfl rfl (by kernel_rfl) (by decide) (fun K hK => ?_)
      refine goes_ Tryd.func19 (by kernel_rfl) rfl #[.agg #[.slice A0_0 l0_0.length c0_0]] (by rfl) rfl rfl (by (try simp only [List.map_toArray, List.map_cons, List.map_nil]); first | done | rfl) ?_
      with_reducible refine (laws_toTree.calls k _ _ l0_0 t348 _ ?side1 ?side2 A27.out).mono ?_
      (case side1 => repeat (first | exact (Kd.C_below HR0_0.out HB.out) | (with_reducible refine Kd.C_alloc ?_ _) | (with_reducible refine Kd.C_drewN ?_ _) | (with_reducible refine Kd.C_drew ?_)))
      (case side2 => exact HC0_0.out)
      rintro e w85 ⟨v349, rfl, zX, hb⟩
      refine ⟨_, rfl, ?_⟩
      have n0_ := Aside0.mk (Kd.R_elder' (RL zN.out) (Kd.R_base zX) hb)
      have n1_ := Aside0.mk (Kd.R_below (RL zR.out) hb)
      have n2_ := Aside0.mk (Kd.R_elder' (RL zV.out) (Kd.R_base zX) hb)
      have n3_ := Aside0.mk (Kd.R_elder' (RL zY.out) (Kd.R_base zX) hb)
      have n4_ := Aside0.mk (Kd.R_below (RL zZ.out) hb)
      have n5_ := Aside0.mk (Kd.R_elder' (RL zeb.out) (Kd.R_base zX) hb)
      have n6_ := Aside0.mk (Kd.R_lower (Kd.R_new' (Kd.R_new' (Kd.R_new' (Kd.R_new' zX (Kd.R_lt (RL zN.out))) (Kd.R_lt (RL zV.out))) (Kd.R_lt (RL zY.out))) (Kd.R_lt (RL zeb.out))) (zm (by repeat (first | (with_reducible first | exact HB.out | apply zh | apply zf | apply zg | refine zd ?_ zP.out | refine zd ?_ zQ.out | refine zd ?_ zS.out | refine zd ?_ zbb.out | refine zd ?_ zcb.out | refine zd ?_ zdb.out) | exact HB.out))))
      have n7_ := Aside0.mk (zi (g := zE) (o := .cells #[.slice A0_0 l0_0.length c0_0] 45 (0, 0)) (BL zB.out) hb)
      have n8_ := Aside0.mk (zi (g := zF) (o := .cells #[.int .i64 a1_0, .slice A1_1 l1_1.length c1_1] 48 (0, 0)) (BL zA.out) hb)
      have n9_ := Aside0.mk (zi (g := zL) (o := .cells #[.slice Ao51 t330.length co51] 25 (0, 0)) (BL zC.out) hb)
      have n10_ := Aside0.mk (zi (g := zU) (o := .cells #[.slice Ao57 t334.length co57] 25 (0, 0)) (BL zG.out) hb)
      have n11_ := Aside0.mk (zi (g := zT) (o := .cells #[.int .i64 t338, .slice Ao71 t339.length co71] 55 (0, 0)) (BL zH.out) hb)
      have n12_ := Aside0.mk (zi (g := zW) (o := .cells #[.slice Ao75 t343.length co75] 25 (0, 0)) (BL zK.out) hb)
      have n13_ := Aside0.mk (zn (by repeat (first | (with_reducible first | exact HB.out | apply zh | apply zf | apply zg | refine zd ?_ zP.out | refine zd ?_ zQ.out | refine zd ?_ zS.out | refine zd ?_ zbb.out | refine zd ?_ zcb.out | refine zd ?_ zdb.out) | exact HB.out)) hb)
      clear zN
      clear zR
      clear zV
      clear zY
      clear zZ
      clear zeb
      clear zB
      clear zA
      clear zC
      clear zG
      clear zH
      clear zK
      clear HB
      have zN := n0_
      have zR := n1_
      have zV := n2_
      have zY := n3_
      have zZ := n4_
      have zeb := n5_
      have zkb := n6_
      have zB := n7_
      have zA := n8_
      have zC := n9_
      have zG := n10_
      have zH := n11_
      have zK := n12_
      have HB := n13_
      clear n0_ n1_ n2_ n3_ n4_ n5_ n6_ n7_ n8_ n9_ n10_ n11_ n12_ n13_
      (try clear hb)
      (try clear hb2)
      (try clear hk)
      (try clear hi)
      (try clear zX)
      obtain ⟨Ao86, co86, eo86⟩ := Kd.R_slice zkb.out
      (first | subst eo86 | (injection eo86 with f1_ f2_ f3_; have f4_ := f1_.symm; have f5_ := f3_.symm; clear f1_ f2_ f3_; subst f4_; subst f5_))
      refine hK.out _ _ ⟨(zc zG.out 0).trans rfl, (zc zB.out 0).trans rfl⟩ (fun hHeld => ?_)
      clear hK K
      refine norm_ (a' := ?_) ?_ ?_
      rotate_left
      ·show Act.put _ (some 42) _ = _
       simp only [pt, ps, p0, p1, zo, zp]
       rfl
      refine one_ (i := 3) (N := some 43) #[true, true, true, true, false] rfl rfl (by kernel_rfl) (by decide) (fun K hK => ?_)
      refine goes_ Tryd.func22 (by kernel_rfl) rfl #[.agg #[.slice Ao57 t334.length co57], .agg #[.slice Ao86 t348.length co86]] (by rfl) rfl rfl (by (try simp only [List.map_toArray, List.map_cons, List.map_nil]); first | done | rfl) ?_
      with_reducible refine (laws_eqTree.calls k _ _ t334 _ _ t348 true _ ?side1 ?side2 ?side3 ?side4 A28.out).mono ?_
      (case side1 => repeat (first | exact (Kd.R_reads' zY.out).2.2 | (with_reducible refine Kd.C_alloc ?_ _) | (with_reducible refine Kd.C_drewN ?_ _) | (with_reducible refine Kd.C_drew ?_)))
      (case side2 => exact (Kd.R_reads' zY.out).2.1)
      (case side3 => repeat (first | exact (Kd.R_reads' zkb.out).2.2 | (with_reducible refine Kd.C_alloc ?_ _) | (with_reducible refine Kd.C_drewN ?_ _) | (with_reducible refine Kd.C_drew ?_)))
      (case side4 => exact (Kd.R_reads' zkb.out).2.1)
      rintro e w87 ⟨rfl, hb⟩
      refine ⟨_, rfl, ?_⟩
      have n0_ := Aside0.mk (Kd.R_below (RL zN.out) hb)
      have n1_ := Aside0.mk (Kd.R_below (RL zR.out) hb)
      have n2_ := Aside0.mk (Kd.R_below (RL zV.out) hb)
      have n3_ := Aside0.mk (Kd.R_below (RL zY.out) hb)
      have n4_ := Aside0.mk (Kd.R_below (RL zZ.out) hb)
      have n5_ := Aside0.mk (Kd.R_below (RL zeb.out) hb)
      have n6_ := Aside0.mk (Kd.R_below (RL zkb.out) hb)
      have n7_ := Aside0.mk (zi (g := zE) (o := .cells #[.slice A0_0 l0_0.length c0_0] 45 (0, 0)) (BL zB.out) hb)
      have n8_ := Aside0.mk (zi (g := zF) (o := .cells #[.int .i64 a1_0, .slice A1_1 l1_1.length c1_1] 48 (0, 0)) (BL zA.out) hb)
      have n9_ := Aside0.mk (zi (g := zL) (o := .cells #[.slice Ao51 t330.length co51] 25 (0, 0)) (BL zC.out) hb)
      have n10_ := Aside0.mk (zi (g := zU) (o := .cells #[.slice Ao57 t334.length co57] 25 (0, 0)) (BL zG.out) hb)
      have n11_ := Aside0.mk (zi (g := zT) (o := .cells #[.int .i64 t338, .slice Ao71 t339.length co71] 55 (0, 0)) (BL zH.out) hb)
      have n12_ := Aside0.mk (zi (g := zW) (o := .cells #[.slice Ao75 t343.length co75] 25 (0, 0)) (BL zK.out) hb)
      have n13_ := Aside0.mk (zn (by repeat (first | (with_reducible first | exact HB.out | apply zh | apply zf | apply zg | refine zd ?_ zP.out | refine zd ?_ zQ.out | refine zd ?_ zS.out | refine zd ?_ zbb.out | refine zd ?_ zcb.out | refine zd ?_ zdb.out) | exact HB.out)) hb)
      clear zN
      clear zR
      clear zV
      clear zY
      clear zZ
      clear zeb
      clear zkb
      clear zB
      clear zA
      clear zC
      clear zG
      clear zH
      clear zK
      clear HB
      have zN := n0_
      have zR := n1_
      have zV := n2_
      have zY := n3_
      have zZ := n4_
      have zeb := n5_
      have zkb := n6_
      have zB := n7_
      have zA := n8_
      have zC := n9_
      have zG := n10_
      have zH := n11_
      have zK := n12_
      have HB := n13_
      clear n0_ n1_ n2_ n3_ n4_ n5_ n6_ n7_ n8_ n9_ n10_ n11_ n12_ n13_
      (try clear hb)
      (try clear hb2)
      (try clear hk)
      (try clear hi)
      refine hK.out _ _ ⟨(zc zG.out 0).trans rfl, (zc zB.out 0).trans rfl⟩ (fun hHeld => ?_)
      clear hK K
      refine norm_ (a' := ?_) ?_ ?_
      rotate_left
      ·show Act.put _ (some 43) _ = _
       simp only [pt, ps, p0, p1, zo, zp]
       rfl
      refine pu 4 44 rfl rfl (by kernel_rfl) (fun _ _ _ _ h => h) (by rfl) ⟨_, _, fun w' => by go_simp; rfl, by simp only [pt, ps, p0, p1, zo, zp]; rfl, ?_⟩
      refine done_ (by kernel_rfl) ?_
      try go_wp2
      have n0_ := Aside0.mk (Kd.R_drew zN.out)
      have n1_ := Aside0.mk (Kd.R_drew zR.out)
      have n2_ := Aside0.mk (Kd.R_drew zV.out)
      have n3_ := Aside0.mk (Kd.R_drew zY.out)
      have n4_ := Aside0.mk (Kd.R_drew zZ.out)
      have n5_ := Aside0.mk (Kd.R_drew zeb.out)
      have n6_ := Aside0.mk (Kd.R_drew zkb.out)
      have n7_ := Aside0.mk (zl zB.out)
      have n8_ := Aside0.mk (zl zA.out)
      have n9_ := Aside0.mk (zl zC.out)
      have n10_ := Aside0.mk (zl zG.out)
      have n11_ := Aside0.mk (zl zH.out)
      have n12_ := Aside0.mk (zl zK.out)
      have n13_ := Aside0.mk (zg HB.out)
      clear zN
      clear zR
      clear zV
      clear zY
      clear zZ
      clear zeb
      clear zkb
      clear zB
      clear zA
      clear zC
      clear zG
      clear zH
      clear zK
      clear HB
      have zN := n0_
      have zR := n1_
      have zV := n2_
      have zY := n3_
      have zZ := n4_
      have zeb := n5_
      have zkb := n6_
      have zB := n7_
      have zA := n8_
      have zC := n9_
      have zG := n10_
      have zH := n11_
      have zK := n12_
      have HB := n13_
      clear n0_ n1_ n2_ n3_ n4_ n5_ n6_ n7_ n8_ n9_ n10_ n11_ n12_ n13_
      refine start_ (n := 5) (S := fun w' => w'.cell? ⟨zT, 0, none⟩ = some (.int .i64 t338) ∧ w'.cell? ⟨zT, 1, none⟩ = some (.slice Ao71 t339.length co71) ∧ w'.cell? ⟨zF, 0, none⟩ = some (.int .i64 a1_0) ∧ w'.cell? ⟨zF, 1, none⟩ = some (.slice A1_1 l1_1.length c1_1)) (ds := []) #[false, false, false, false, false] (by kernel_rfl) rfl rfl ⟨(zc zH.out 0).trans rfl, (zc zH.out 1).trans rfl, (zc zA.out 0).trans rfl, (zc zA.out 1).trans rfl⟩ (fun hHeld => ?_)
      generalize w87.drew = w88 at zN zR zV zY zZ zeb zkb zB zA zC zG zH zK HB hHeld ⊢
      refine ta 0 45 rfl rfl (by kernel_rfl) (fun _ _ _ _ h => h) (by rfl) hHeld ⟨_, _, by rintro w' ⟨s0, s1, s2, s3⟩; go_simp; rfl, by simp only [pt, ps, p0, p1, zo, zp]; rfl, ?_⟩
      refine ta 1 46 rfl rfl (by kernel_rfl) (fun _ _ _ _ h => h) (by rfl) hHeld ⟨_, _, by rintro w' ⟨s0, s1, s2, s3⟩; go_simp; rfl, by simp only [pt, ps, p0, p1, zo, zp]; rfl, ?_⟩
      refine one_ (i := 2) (N := some 47) #[true, true, true, false, false] rfl rfl (by kernel_rfl) (by decide) (fun K hK => ?_)
      refine goes_ Tryd.func20 (by kernel_rfl) rfl #[.agg #[.int .i64 a1_0, .slice A1_1 l1_1.length c1_1]] (by rfl) rfl rfl (by (try simp only [List.map_toArray, List.map_cons, List.map_nil]); first | done | rfl) ?_
      with_reducible refine (laws_toTxn.calls k a1_0 _ _ l1_1 t352 t353 _ ?side1 ?side2 A30.out).mono ?_
      (case side1 => repeat (first | exact (Kd.C_below HR1_1.out HB.out) | (with_reducible refine Kd.C_alloc ?_ _) | (with_reducible refine Kd.C_drewN ?_ _) | (with_reducible refine Kd.C_drew ?_)))
      (case side2 => exact HC1_1.out)
      rintro e w89 ⟨v354, rfl, zX, hb⟩
      refine ⟨_, rfl, ?_⟩
      have n0_ := Aside0.mk (Kd.R_below (RL zN.out) hb)
      have n1_ := Aside0.mk (Kd.R_elder' (RL zR.out) (Kd.R_base zX) hb)
      have n2_ := Aside0.mk (Kd.R_below (RL zV.out) hb)
      have n3_ := Aside0.mk (Kd.R_below (RL zY.out) hb)
      have n4_ := Aside0.mk (Kd.R_elder' (RL zZ.out) (Kd.R_base zX) hb)
      have n5_ := Aside0.mk (Kd.R_below (RL zeb.out) hb)
      have n6_ := Aside0.mk (Kd.R_below (RL zkb.out) hb)
      have n7_ := Aside0.mk (Kd.R_lower (Kd.R_new' (Kd.R_new' zX (Kd.R_lt (RL zR.out))) (Kd.R_lt (RL zZ.out))) (zm (by repeat (first | (with_reducible first | exact HB.out | apply zh | apply zf | apply zg | refine zd ?_ zP.out | refine zd ?_ zQ.out | refine zd ?_ zS.out | refine zd ?_ zbb.out | refine zd ?_ zcb.out | refine zd ?_ zdb.out) | exact HB.out))))
      have n8_ := Aside0.mk (zi (g := zE) (o := .cells #[.slice A0_0 l0_0.length c0_0] 45 (0, 0)) (BL zB.out) hb)
      have n9_ := Aside0.mk (zi (g := zF) (o := .cells #[.int .i64 a1_0, .slice A1_1 l1_1.length c1_1] 48 (0, 0)) (BL zA.out) hb)
      have n10_ := Aside0.mk (zi (g := zL) (o := .cells #[.slice Ao51 t330.length co51] 25 (0, 0)) (BL zC.out) hb)
      have n11_ := Aside0.mk (zi (g := zU) (o := .cells #[.slice Ao57 t334.length co57] 25 (0, 0)) (BL zG.out) hb)
      have n12_ := Aside0.mk (zi (g := zT) (o := .cells #[.int .i64 t338, .slice Ao71 t339.length co71] 55 (0, 0)) (BL zH.out) hb)
      have n13_ := Aside0.mk (zi (g := zW) (o := .cells #[.slice Ao75 t343.length co75] 25 (0, 0)) (BL zK.out) hb)
      have n14_ := Aside0.mk (zn (by repeat (first | (with_reducible first | exact HB.out | apply zh | apply zf | apply zg | refine zd ?_ zP.out | refine zd ?_ zQ.out | refine zd ?_ zS.out | refine zd ?_ zbb.out | refine zd ?_ zcb.out | refine zd ?_ zdb.out) | exact HB.out)) hb)
      clear zN
      clear zR
      clear zV
      clear zY
      clear zZ
      clear zeb
      clear zkb
      clear zB
      clear zA
      clear zC
      clear zG
      clear zH
      clear zK
      clear HB
      have zN := n0_
      have zR := n1_
      have zV := n2_
      have zY := n3_
      have zZ := n4_
      have zeb := n5_
      have zkb := n6_
      have zAb := n7_
      have zB := n8_
      have zA := n9_
      have zC := n10_
      have zG := n11_
      have zH := n12_
      have zK := n13_
      have HB := n14_
      clear n0_ n1_ n2_ n3_ n4_ n5_ n6_ n7_ n8_ n9_ n10_ n11_ n12_ n13_ n14_
      (try clear hb)
      (try clear hb2)
      (try clear hk)
      (try clear hi)
      (try clear zX)
      obtain ⟨Ao90, co90, eo90⟩ := Kd.R_slice zAb.out
      (first | subst eo90 | (injection eo90 with f1_ f2_ f3_; have f4_ := f1_.symm; have f5_ := f3_.symm; clear f1_ f2_ f3_; subst f4_; subst f5_))
      refine hK.out _ _ ⟨(zc zH.out 0).trans rfl, (zc zH.out 1).trans rfl, (zc zA.out 0).trans rfl, (zc zA.out 1).trans rfl⟩ (fun hHeld => ?_)
      clear hK K
      refine norm_ (a' := ?_) ?_ ?_
      rotate_left
      ·show Act.put _ (some 47) _ = _
       simp only [pt, ps, p0, p1, zo, zp]
       rfl
      refine one_ (i := 3) (N := some 48) #[true, true, true, true, false] rfl rfl (by kernel_rfl) (by decide) (fun K hK => ?_)
      refine goes_ Tryd.func23 (by kernel_rfl) rfl #[.agg #[.int .i64 t338, .slice Ao71 t339.length co71], .agg #[.int .i64 t352, .slice Ao90 t353.length co90]] (by rfl) rfl rfl (by (try simp only [List.map_toArray, List.map_cons, List.map_nil]); first | done | rfl) ?_
      with_reducible refine (laws_eqTxn.calls k t338 _ _ t339 t352 _ _ t353 true _ ?side1 ?side2 ?side3 ?side4 A31.out).mono ?_
      (case side1 => repeat (first | exact (Kd.R_reads' zZ.out).2.2 | (with_reducible refine Kd.C_alloc ?_ _) | (with_reducible refine Kd.C_drewN ?_ _) | (with_reducible refine Kd.C_drew ?_)))
      (case side2 => exact (Kd.R_reads' zZ.out).2.1)
      (case side3 => repeat (first | exact (Kd.R_reads' zAb.out).2.2 | (with_reducible refine Kd.C_alloc ?_ _) | (with_reducible refine Kd.C_drewN ?_ _) | (with_reducible refine Kd.C_drew ?_)))
      (case side4 => exact (Kd.R_reads' zAb.out).2.1)
      rintro e w91 ⟨rfl, hb⟩
      refine ⟨_, rfl, ?_⟩
      have n0_ := Aside0.mk (Kd.R_below (RL zN.out) hb)
      have n1_ := Aside0.mk (Kd.R_below (RL zR.out) hb)
      have n2_ := Aside0.mk (Kd.R_below (RL zV.out) hb)
      have n3_ := Aside0.mk (Kd.R_below (RL zY.out) hb)
      have n4_ := Aside0.mk (Kd.R_below (RL zZ.out) hb)
      have n5_ := Aside0.mk (Kd.R_below (RL zeb.out) hb)
      have n6_ := Aside0.mk (Kd.R_below (RL zkb.out) hb)
      have n7_ := Aside0.mk (Kd.R_below (RL zAb.out) hb)
      have n8_ := Aside0.mk (zi (g := zE) (o := .cells #[.slice A0_0 l0_0.length c0_0] 45 (0, 0)) (BL zB.out) hb)
      have n9_ := Aside0.mk (zi (g := zF) (o := .cells #[.int .i64 a1_0, .slice A1_1 l1_1.length c1_1] 48 (0, 0)) (BL zA.out) hb)
      have n10_ := Aside0.mk (zi (g := zL) (o := .cells #[.slice Ao51 t330.length co51] 25 (0, 0)) (BL zC.out) hb)
      have n11_ := Aside0.mk (zi (g := zU) (o := .cells #[.slice Ao57 t334.length co57] 25 (0, 0)) (BL zG.out) hb)
      have n12_ := Aside0.mk (zi (g := zT) (o := .cells #[.int .i64 t338, .slice Ao71 t339.length co71] 55 (0, 0)) (BL zH.out) hb)
      have n13_ := Aside0.mk (zi (g := zW) (o := .cells #[.slice Ao75 t343.length co75] 25 (0, 0)) (BL zK.out) hb)
      have n14_ := Aside0.mk (zn (by repeat (first | (with_reducible first | exact HB.out | apply zh | apply zf | apply zg | refine zd ?_ zP.out | refine zd ?_ zQ.out | refine zd ?_ zS.out | refine zd ?_ zbb.out | refine zd ?_ zcb.out | refine zd ?_ zdb.out) | exact HB.out)) hb)
      clear zN
      clear zR
      clear zV
      clear zY
      clear zZ
      clear zeb
      clear zkb
      clear zAb
      clear zB
      clear zA
      clear zC
      clear zG
      clear zH
      clear zK
      clear HB
      have zN := n0_
      have zR := n1_
      have zV := n2_
      have zY := n3_
      have zZ := n4_
      have zeb := n5_
      have zkb := n6_
      have zAb := n7_
      have zB := n8_
      have zA := n9_
      have zC := n10_
      have zG := n11_
      have zH := n12_
      have zK := n13_
      have HB := n14_
      clear n0_ n1_ n2_ n3_ n4_ n5_ n6_ n7_ n8_ n9_ n10_ n11_ n12_ n13_ n14_
      (try clear hb)
      (try clear hb2)
      (try clear hk)
      (try clear hi)
      refine hK.out _ _ ⟨(zc zH.out 0).trans rfl, (zc zH.out 1).trans rfl, (zc zA.out 0).trans rfl, (zc zA.out 1).trans rfl⟩ (fun hHeld => ?_)
      clear hK K
      refine norm_ (a' := ?_) ?_ ?_
      rotate_left
      ·show Act.put _ (some 48) _ = _
       simp only [pt, ps, p0, p1, zo, zp]
       rfl
      refine pu 4 49 rfl rfl (by kernel_rfl) (fun _ _ _ _ h => h) (by rfl) ⟨_, _, fun w' => by go_simp; rfl, by simp only [pt, ps, p0, p1, zo, zp]; rfl, ?_⟩
      refine done_ (by kernel_rfl) ?_
      have zxc : w91.cell? ⟨zU, 0, none⟩ = some (.slice Ao57 t334.length co57) := (zc zG.out 0).trans rfl
      have zyc := ze zG.out 0
      go_upto_region 21 with (first | ((with_reducible refine zr (f := 24) rfl ?_); refine zz (some 52) rfl rfl Tryd.func24 (by kernel_rfl) rfl #[.agg #[.slice Ao57 t334.length co57], .int .i64 1] rfl (by (try simp only [List.map_toArray, List.map_cons, List.map_nil]); first | done | rfl) ?_; (with_reducible refine (laws_markTree.calls k (fun k_ => some k_ = (.slice Ao57 t334.length co57 : Value).ownBlock) (.slice Ao57 t334.length co57) t334 1 t357 t358 w _ ?side1 ?side2 A33.out).mono ?_); (case side1 => exact bl HB.out); (case side2 => exact Kd.R_tight rfl zY.out); rintro e w93 ⟨rfl, hy0, hb, hkp⟩; refine ⟨_, rfl, ?_⟩; have n0_ := Aside0.mk (blk_kept (BL zB.out) hkp (fun hs_ => (fun e_ => (Kd.R_ne zY.out zB.out (by decide)) e_) hs_)); have n1_ := Aside0.mk (blk_kept (BL zA.out) hkp (fun hs_ => (fun e_ => (Kd.R_ne zY.out zA.out (by decide)) e_) hs_)); have n2_ := Aside0.mk (Kd.R_mono (ok' := fun k_ => some k_ ≠ (.slice Ao51 t330.length co51 : Value).ownBlock ∧ some k_ ≠ (.slice Ao57 t334.length co57 : Value).ownBlock ∧ some k_ ≠ (.slice Ao75 t343.length co75 : Value).ownBlock ∧ some k_ ≠ (.slice Ao86 t348.length co86 : Value).ownBlock) (Kd.R_keptB (zN.out) hkp (fun k_ hk_ hs_ => by first | exact (hk_.1.1.2) hs_ | exact hk_.1 hs_ | exact hk_.2 hs_ | exact hk_.1.1 hs_ | exact hk_.1.2 hs_ | exact hk_.2.1 hs_ | exact hk_.2.2 hs_)) (fun k_ hk_ => by first | exact ⟨hk_.1.1.1.1, hk_.1.1.1.2, hk_.1.1.2, hk_.1.2⟩ | exact hk_.1 | exact ⟨hk_.1.1, hk_.1.2⟩ | exact ⟨hk_.1.2, hk_.1.1⟩ | exact hk_.1.1 | exact hk_.1.2)); have n3_ := Aside0.mk (Kd.R_mono (ok' := fun k_ => some k_ ≠ (.slice Ao71 t339.length co71 : Value).ownBlock ∧ some k_ ≠ (.slice Ao90 t353.length co90 : Value).ownBlock) (Kd.R_keptB ((Kd.R_apart' zR.out (Kd.R_typed zY.out) (by decide))) hkp (fun k_ hk_ hs_ => by first | exact (hk_.2) hs_ | exact hk_.1 hs_ | exact hk_.2 hs_ | exact hk_.1.1 hs_ | exact hk_.1.2 hs_ | exact hk_.2.1 hs_ | exact hk_.2.2 hs_)) (fun k_ hk_ => by first | exact ⟨hk_.1.1.1.2, hk_.1.1.2⟩ | exact hk_.1 | exact ⟨hk_.1.1, hk_.1.2⟩ | exact ⟨hk_.1.2, hk_.1.1⟩ | exact hk_.1.1 | exact hk_.1.2)); have n4_ := Aside0.mk (Kd.R_mono (ok' := fun k_ => some k_ ≠ (v324 : Value).ownBlock ∧ some k_ ≠ (.slice Ao57 t334.length co57 : Value).ownBlock ∧ some k_ ≠ (.slice Ao75 t343.length co75 : Value).ownBlock ∧ some k_ ≠ (.slice Ao86 t348.length co86 : Value).ownBlock) (Kd.R_keptB (zV.out) hkp (fun k_ hk_ hs_ => by first | exact (hk_.1.1.2) hs_ | exact hk_.1 hs_ | exact hk_.2 hs_ | exact hk_.1.1 hs_ | exact hk_.1.2 hs_ | exact hk_.2.1 hs_ | exact hk_.2.2 hs_)) (fun k_ hk_ => by first | exact ⟨hk_.1.1.1.1, hk_.1.1.1.2, hk_.1.1.2, hk_.1.2⟩ | exact hk_.1 | exact ⟨hk_.1.1, hk_.1.2⟩ | exact ⟨hk_.1.2, hk_.1.1⟩ | exact hk_.1.1 | exact hk_.1.2)); have n5_ := Aside0.mk (blk_kept (BL zC.out) hkp (fun hs_ => (fun e_ => (Kd.R_ne zY.out zC.out (by decide)) e_) hs_)); have n6_ := Aside0.mk (Kd.R_reok rfl hy0 (fun k_ e_ => zY.out.1 k_ e_)); have n7_ := Aside0.mk (blk_kept (BL zG.out) hkp (fun hs_ => (fun e_ => (Kd.R_ne zY.out zG.out (by decide)) e_) hs_)); have n8_ := Aside0.mk (Kd.R_mono (ok' := fun k_ => some k_ ≠ (v328 : Value).ownBlock ∧ some k_ ≠ (.slice Ao90 t353.length co90 : Value).ownBlock) (Kd.R_keptB ((Kd.R_apart' zZ.out (Kd.R_typed zY.out) (by decide))) hkp (fun k_ hk_ hs_ => by first | exact (hk_.2) hs_ | exact hk_.1 hs_ | exact hk_.2 hs_ | exact hk_.1.1 hs_ | exact hk_.1.2 hs_ | exact hk_.2.1 hs_ | exact hk_.2.2 hs_)) (fun k_ hk_ => by first | exact ⟨hk_.1.1.1.2, hk_.1.1.2⟩ | exact hk_.1 | exact ⟨hk_.1.1, hk_.1.2⟩ | exact ⟨hk_.1.2, hk_.1.1⟩ | exact hk_.1.1 | exact hk_.1.2)); have n9_ := Aside0.mk (blk_kept (BL zH.out) hkp (fun hs_ => (fun e_ => (Kd.R_ne zY.out zH.out (by decide)) e_) hs_)); have n10_ := Aside0.mk (Kd.R_mono (ok' := fun k_ => some k_ ≠ (v324 : Value).ownBlock ∧ some k_ ≠ (.slice Ao51 t330.length co51 : Value).ownBlock ∧ some k_ ≠ (.slice Ao57 t334.length co57 : Value).ownBlock ∧ some k_ ≠ (.slice Ao86 t348.length co86 : Value).ownBlock) (Kd.R_keptB (zeb.out) hkp (fun k_ hk_ hs_ => by first | exact (hk_.1.2) hs_ | exact hk_.1 hs_ | exact hk_.2 hs_ | exact hk_.1.1 hs_ | exact hk_.1.2 hs_ | exact hk_.2.1 hs_ | exact hk_.2.2 hs_)) (fun k_ hk_ => by first | exact ⟨hk_.1.1.1.1.2, hk_.1.1.1.2, hk_.1.1.2, hk_.1.2⟩ | exact hk_.1 | exact ⟨hk_.1.1, hk_.1.2⟩ | exact ⟨hk_.1.2, hk_.1.1⟩ | exact hk_.1.1 | exact hk_.1.2)); have n11_ := Aside0.mk (blk_kept (BL zK.out) hkp (fun hs_ => (fun e_ => (Kd.R_ne zY.out zK.out (by decide)) e_) hs_)); have n12_ := Aside0.mk (Kd.R_mono (ok' := fun k_ => some k_ ≠ (v324 : Value).ownBlock ∧ some k_ ≠ (.slice Ao51 t330.length co51 : Value).ownBlock ∧ some k_ ≠ (.slice Ao57 t334.length co57 : Value).ownBlock ∧ some k_ ≠ (.slice Ao75 t343.length co75 : Value).ownBlock) (Kd.R_keptB (zkb.out) hkp (fun k_ hk_ hs_ => by first | exact (hk_.1.2) hs_ | exact hk_.1 hs_ | exact hk_.2 hs_ | exact hk_.1.1 hs_ | exact hk_.1.2 hs_ | exact hk_.2.1 hs_ | exact hk_.2.2 hs_)) (fun k_ hk_ => by first | exact ⟨hk_.1.1.1.1.2, hk_.1.1.1.2, hk_.1.1.2, hk_.1.2⟩ | exact hk_.1 | exact ⟨hk_.1.1, hk_.1.2⟩ | exact ⟨hk_.1.2, hk_.1.1⟩ | exact hk_.1.1 | exact hk_.1.2)); have n13_ := Aside0.mk (Kd.R_mono (ok' := fun k_ => some k_ ≠ (v328 : Value).ownBlock ∧ some k_ ≠ (.slice Ao71 t339.length co71 : Value).ownBlock) (Kd.R_keptB ((Kd.R_apart' zAb.out (Kd.R_typed zY.out) (by decide))) hkp (fun k_ hk_ hs_ => by first | exact (hk_.2) hs_ | exact hk_.1 hs_ | exact hk_.2 hs_ | exact hk_.1.1 hs_ | exact hk_.1.2 hs_ | exact hk_.2.1 hs_ | exact hk_.2.2 hs_)) (fun k_ hk_ => by first | exact ⟨hk_.1.1.1.2, hk_.1.1.2⟩ | exact hk_.1 | exact ⟨hk_.1.1, hk_.1.2⟩ | exact ⟨hk_.1.2, hk_.1.1⟩ | exact hk_.1.1 | exact hk_.1.2)); have n14_ := Aside0.mk (hb); clear zB; clear zA; clear zN; clear zR; clear zV; clear zC; clear zY; clear zG; clear zZ; clear zH; clear zeb; clear zK; clear zkb; clear zAb; clear HB; have zB := n0_; have zA := n1_; have zN := n2_; have zR := n3_; have zV := n4_; have zC := n5_; have zY := n6_; have zG := n7_; have zZ := n8_; have zH := n9_; have zeb := n10_; have zK := n11_; have zkb := n12_; have zAb := n13_; have HB := n14_; clear n0_ n1_ n2_ n3_ n4_ n5_ n6_ n7_ n8_ n9_ n10_ n11_ n12_ n13_ n14_; (try clear hb); (try clear hkp); (try clear hy0); have zzc : w93.cell? ⟨zT, 0, none⟩ = some (.int .i64 t338) := (zc zH.out 0).trans rfl; have zAc : w93.cell? ⟨zT, 1, none⟩ = some (.slice Ao71 t339.length co71) := (zc zH.out 1).trans rfl; have zBc := ze zH.out 0; have zCc := ze zH.out 1) | ((with_reducible refine zr (f := 25) rfl ?_); refine zz (some 55) rfl rfl Tryd.func25 (by kernel_rfl) rfl #[.agg #[.int .i64 t338, .slice Ao71 t339.length co71], .int .i64 t357] rfl (by (try simp only [List.map_toArray, List.map_cons, List.map_nil]); first | done | rfl) ?_; (with_reducible refine (laws_markTxn.calls k t338 (fun k_ => some k_ = (.slice Ao71 t339.length co71 : Value).ownBlock) (.slice Ao71 t339.length co71) t339 t357 t359 t360 w _ ?side1 ?side2 A34.out).mono ?_); (case side1 => exact bl HB.out); (case side2 => exact Kd.R_tight rfl zZ.out); rintro e w95 ⟨rfl, hy0, hb, hkp⟩; refine ⟨_, rfl, ?_⟩; have n0_ := Aside0.mk (blk_kept (BL zB.out) hkp (fun hs_ => (fun e_ => (Kd.R_ne zZ.out zB.out (by decide)) e_) hs_)); have n1_ := Aside0.mk (blk_kept (BL zA.out) hkp (fun hs_ => (fun e_ => (Kd.R_ne zZ.out zA.out (by decide)) e_) hs_)); have n2_ := Aside0.mk (Kd.R_mono (ok' := fun k_ => some k_ ≠ (.slice Ao51 t330.length co51 : Value).ownBlock ∧ some k_ ≠ (.slice Ao57 t334.length co57 : Value).ownBlock ∧ some k_ ≠ (.slice Ao75 t343.length co75 : Value).ownBlock ∧ some k_ ≠ (.slice Ao86 t348.length co86 : Value).ownBlock) (Kd.R_keptB ((Kd.R_apart' zN.out (Kd.R_typed zZ.out) (by decide))) hkp (fun k_ hk_ hs_ => by first | exact (hk_.2) hs_ | exact hk_.1 hs_ | exact hk_.2 hs_ | exact hk_.1.1 hs_ | exact hk_.1.2 hs_ | exact hk_.2.1 hs_ | exact hk_.2.2 hs_)) (fun k_ hk_ => by first | exact ⟨hk_.1.1.1, hk_.1.1.2.1, hk_.1.1.2.2.1, hk_.1.1.2.2.2⟩ | exact hk_.1 | exact ⟨hk_.1.1, hk_.1.2⟩ | exact ⟨hk_.1.2, hk_.1.1⟩ | exact hk_.1.1 | exact hk_.1.2)); have n3_ := Aside0.mk (Kd.R_mono (ok' := fun k_ => some k_ ≠ (.slice Ao71 t339.length co71 : Value).ownBlock ∧ some k_ ≠ (.slice Ao90 t353.length co90 : Value).ownBlock) (Kd.R_keptB (zR.out) hkp (fun k_ hk_ hs_ => by first | exact (hk_.1) hs_ | exact hk_.1 hs_ | exact hk_.2 hs_ | exact hk_.1.1 hs_ | exact hk_.1.2 hs_ | exact hk_.2.1 hs_ | exact hk_.2.2 hs_)) (fun k_ hk_ => by first | exact ⟨hk_.1.1, hk_.1.2⟩ | exact hk_.1 | exact ⟨hk_.1.1, hk_.1.2⟩ | exact ⟨hk_.1.2, hk_.1.1⟩ | exact hk_.1.1 | exact hk_.1.2)); have n4_ := Aside0.mk (Kd.R_mono (ok' := fun k_ => some k_ ≠ (v324 : Value).ownBlock ∧ some k_ ≠ (.slice Ao57 t334.length co57 : Value).ownBlock ∧ some k_ ≠ (.slice Ao75 t343.length co75 : Value).ownBlock ∧ some k_ ≠ (.slice Ao86 t348.length co86 : Value).ownBlock) (Kd.R_keptB ((Kd.R_apart' zV.out (Kd.R_typed zZ.out) (by decide))) hkp (fun k_ hk_ hs_ => by first | exact (hk_.2) hs_ | exact hk_.1 hs_ | exact hk_.2 hs_ | exact hk_.1.1 hs_ | exact hk_.1.2 hs_ | exact hk_.2.1 hs_ | exact hk_.2.2 hs_)) (fun k_ hk_ => by first | exact ⟨hk_.1.1.1, hk_.1.1.2.1, hk_.1.1.2.2.1, hk_.1.1.2.2.2⟩ | exact hk_.1 | exact ⟨hk_.1.1, hk_.1.2⟩ | exact ⟨hk_.1.2, hk_.1.1⟩ | exact hk_.1.1 | exact hk_.1.2)); have n5_ := Aside0.mk (blk_kept (BL zC.out) hkp (fun hs_ => (fun e_ => (Kd.R_ne zZ.out zC.out (by decide)) e_) hs_)); have n6_ := Aside0.mk (Kd.R_mono (ok' := fun k_ => some k_ ≠ (v324 : Value).ownBlock ∧ some k_ ≠ (.slice Ao51 t330.length co51 : Value).ownBlock ∧ some k_ ≠ (.slice Ao75 t343.length co75 : Value).ownBlock ∧ some k_ ≠ (.slice Ao86 t348.length co86 : Value).ownBlock) (Kd.R_keptB ((Kd.R_apart' zY.out (Kd.R_typed zZ.out) (by decide))) hkp (fun k_ hk_ hs_ => by first | exact (hk_.2) hs_ | exact hk_.1 hs_ | exact hk_.2 hs_ | exact hk_.1.1 hs_ | exact hk_.1.2 hs_ | exact hk_.2.1 hs_ | exact hk_.2.2 hs_)) (fun k_ hk_ => by first | exact ⟨hk_.1.1.1.1.1.2, hk_.1.1.1.1.2, hk_.1.1.1.2, hk_.1.1.2⟩ | exact hk_.1 | exact ⟨hk_.1.1, hk_.1.2⟩ | exact ⟨hk_.1.2, hk_.1.1⟩ | exact hk_.1.1 | exact hk_.1.2)); have n7_ := Aside0.mk (blk_kept (BL zG.out) hkp (fun hs_ => (fun e_ => (Kd.R_ne zZ.out zG.out (by decide)) e_) hs_)); have n8_ := Aside0.mk (Kd.R_reok rfl hy0 (fun k_ e_ => zZ.out.1 k_ e_)); have n9_ := Aside0.mk (blk_kept (BL zH.out) hkp (fun hs_ => (fun e_ => (Kd.R_ne zZ.out zH.out (by decide)) e_) hs_)); have n10_ := Aside0.mk (Kd.R_mono (ok' := fun k_ => some k_ ≠ (v324 : Value).ownBlock ∧ some k_ ≠ (.slice Ao51 t330.length co51 : Value).ownBlock ∧ some k_ ≠ (.slice Ao57 t334.length co57 : Value).ownBlock ∧ some k_ ≠ (.slice Ao86 t348.length co86 : Value).ownBlock) (Kd.R_keptB ((Kd.R_apart' zeb.out (Kd.R_typed zZ.out) (by decide))) hkp (fun k_ hk_ hs_ => by first | exact (hk_.2) hs_ | exact hk_.1 hs_ | exact hk_.2 hs_ | exact hk_.1.1 hs_ | exact hk_.1.2 hs_ | exact hk_.2.1 hs_ | exact hk_.2.2 hs_)) (fun k_ hk_ => by first | exact ⟨hk_.1.1.1, hk_.1.1.2.1, hk_.1.1.2.2.1, hk_.1.1.2.2.2⟩ | exact hk_.1 | exact ⟨hk_.1.1, hk_.1.2⟩ | exact ⟨hk_.1.2, hk_.1.1⟩ | exact hk_.1.1 | exact hk_.1.2)); have n11_ := Aside0.mk (blk_kept (BL zK.out) hkp (fun hs_ => (fun e_ => (Kd.R_ne zZ.out zK.out (by decide)) e_) hs_)); have n12_ := Aside0.mk (Kd.R_mono (ok' := fun k_ => some k_ ≠ (v324 : Value).ownBlock ∧ some k_ ≠ (.slice Ao51 t330.length co51 : Value).ownBlock ∧ some k_ ≠ (.slice Ao57 t334.length co57 : Value).ownBlock ∧ some k_ ≠ (.slice Ao75 t343.length co75 : Value).ownBlock) (Kd.R_keptB ((Kd.R_apart' zkb.out (Kd.R_typed zZ.out) (by decide))) hkp (fun k_ hk_ hs_ => by first | exact (hk_.2) hs_ | exact hk_.1 hs_ | exact hk_.2 hs_ | exact hk_.1.1 hs_ | exact hk_.1.2 hs_ | exact hk_.2.1 hs_ | exact hk_.2.2 hs_)) (fun k_ hk_ => by first | exact ⟨hk_.1.1.1, hk_.1.1.2.1, hk_.1.1.2.2.1, hk_.1.1.2.2.2⟩ | exact hk_.1 | exact ⟨hk_.1.1, hk_.1.2⟩ | exact ⟨hk_.1.2, hk_.1.1⟩ | exact hk_.1.1 | exact hk_.1.2)); have n13_ := Aside0.mk (Kd.R_mono (ok' := fun k_ => some k_ ≠ (v328 : Value).ownBlock ∧ some k_ ≠ (.slice Ao71 t339.length co71 : Value).ownBlock) (Kd.R_keptB (zAb.out) hkp (fun k_ hk_ hs_ => by first | exact (hk_.2) hs_ | exact hk_.1 hs_ | exact hk_.2 hs_ | exact hk_.1.1 hs_ | exact hk_.1.2 hs_ | exact hk_.2.1 hs_ | exact hk_.2.2 hs_)) (fun k_ hk_ => by first | exact ⟨hk_.1.1, hk_.1.2⟩ | exact hk_.1 | exact ⟨hk_.1.1, hk_.1.2⟩ | exact ⟨hk_.1.2, hk_.1.1⟩ | exact hk_.1.1 | exact hk_.1.2)); have n14_ := Aside0.mk (hb); clear zB; clear zA; clear zN; clear zR; clear zV; clear zC; clear zY; clear zG; clear zZ; clear zH; clear zeb; clear zK; clear zkb; clear zAb; clear HB; have zB := n0_; have zA := n1_; have zN := n2_; have zR := n3_; have zV := n4_; have zC := n5_; have zY := n6_; have zG := n7_; have zZ := n8_; have zH := n9_; have zeb := n10_; have zK := n11_; have zkb := n12_; have zAb := n13_; have HB := n14_; clear n0_ n1_ n2_ n3_ n4_ n5_ n6_ n7_ n8_ n9_ n10_ n11_ n12_ n13_ n14_; (try clear hb); (try clear hkp); (try clear hy0)))
      (try simp only [Act.put, List.setIfInBounds_toArray, List.set_cons_zero, List.set_cons_succ])
      go_cut [63] (fun v63 wc => ∃ (kq : Nat) (x63_34 : Bool), v63 = .bool x63_34 ∧ Aside0 (laws_FnExactApplyTxn.j0 kq x63_34 l0_0 a1_0 l1_1 t330 t343 = some r) ∧ Aside0 (kq ≤ k) ∧ Aside0 (Kd.R k77 77 wc w.heap.size (fun k_ => some k_ ≠ ((.slice Ao57 t334.length co57) : Value).ownBlock ∧ some k_ ≠ ((.slice Ao75 t343.length co75) : Value).ownBlock) (.slice Ao51 t330.length co51) t330) ∧ Aside0 (Kd.R k77 77 wc w.heap.size (fun k_ => some k_ ≠ ((.slice Ao51 t330.length co51) : Value).ownBlock ∧ some k_ ≠ ((.slice Ao75 t343.length co75) : Value).ownBlock) (.slice Ao57 t334.length co57) t358) ∧ Aside0 (Kd.R k108 108 wc w.heap.size (fun _ => True) (.slice Ao71 t339.length co71) t360) ∧ Aside0 (Kd.R k77 77 wc w.heap.size (fun k_ => some k_ ≠ ((.slice Ao51 t330.length co51) : Value).ownBlock ∧ some k_ ≠ ((.slice Ao57 t334.length co57) : Value).ownBlock) (.slice Ao75 t343.length co75) t343) ∧ Aside0 (wc.heap[zE]? = some (.cells #[(.slice A0_0 l0_0.length c0_0)] 45 (0, 0))) ∧ Aside0 (wc.heap[zF]? = some (.cells #[.int .i64 a1_0, (.slice A1_1 l1_1.length c1_1)] 48 (0, 0))) ∧ Aside0 (wc.heap[zL]? = some (.cells #[(.slice Ao51 t330.length co51)] 25 (0, 0))) ∧ Aside0 (wc.heap[zU]? = some (.cells #[(.slice Ao57 t334.length co57)] 25 (0, 0))) ∧ Aside0 (wc.heap[zT]? = some (.cells #[.int .i64 t338, (.slice Ao71 t339.length co71)] 55 (0, 0))) ∧ Aside0 (wc.heap[zW]? = some (.cells #[(.slice Ao75 t343.length co75)] 25 (0, 0))) ∧ Aside0 (Below w.heap.size w wc))
      case first =>
       have H := HC35.out
       clear HC35
       by_cases c96 : t359 < 0
       ·rw [if_pos c96] at H
        have c96b0 : decide (t359 < 0) = true := decide_eq_true c96
        clear c96
        (first | rw [c96b0] | (simp only [zo, zp]; rw [c96b0]) | skip)
        have H' := Aside0.mk H
        clear H
        go_wp2
        go_meet
        case rel => exact ⟨_, (true), (by first | rfl | (simp [*]; done)), H', ⟨by first | omega | exact Nat.le_refl _⟩, ⟨RL (Kd.R_mono zV.out (fun _ hk => ⟨hk.2.1, hk.2.2.1⟩))⟩, ⟨RL (Kd.R_mono zY.out (fun _ hk => ⟨hk.2.1, hk.2.2.1⟩))⟩, ⟨RL (Kd.R_mono zZ.out (fun _ hk => trivial))⟩, ⟨RL (Kd.R_mono zeb.out (fun _ hk => ⟨hk.2.1, hk.2.2.1⟩))⟩, ⟨BL zB.out⟩, ⟨BL zA.out⟩, ⟨BL zC.out⟩, ⟨BL zG.out⟩, ⟨BL zH.out⟩, ⟨BL zK.out⟩, ⟨by repeat (first | (with_reducible first | exact HB.out | apply zh | apply zf | apply zg | refine zd ?_ zP.out | refine zd ?_ zQ.out | refine zd ?_ zS.out | refine zd ?_ zbb.out | refine zd ?_ zcb.out | refine zd ?_ zdb.out) | exact HB.out)⟩⟩
       ·rw [if_neg c96] at H
        have c96b0 : decide (t359 < 0) = false := decide_eq_false c96
        clear c96
        (first | rw [c96b0] | (simp only [zo, zp]; rw [c96b0]) | skip)
        replace H := Option.bind_eq_some_iff.mp H
        obtain ⟨t361, A970, H⟩ := H
        try dsimp only at H
        have A97 := Aside0.mk A970
        clear A970
        have H' := Aside0.mk H
        clear H
        have zxe := zPb.out
        have zye := zFb.out
        have zze := zQb.out
        have zAe := zGb.out
        have zZc := zRb.out
        have zad := zHb.out
        have zbd := zSb.out
        have zcd := zIb.out
        have zdd := zTb.out
        have zed := zJb.out
        have zbc : w95.cell? ⟨zW, 0, none⟩ = some (.slice Ao75 t343.length co75) := (zc zK.out 0).trans rfl
        have zcc := ze zK.out 0
        have zfd := zmb.out
        have zgd := zib.out
        have zhd := znb.out
        have zid := zhb.out
        have zjd := zEb.out
        have zkd := zKb.out
        have zld := zDb.out
        have zmd := zNb.out
        have zdc : w95.cell? ⟨zL, 0, none⟩ = some (.slice Ao51 t330.length co51) := (zc zC.out 0).trans rfl
        have zec := ze zC.out 0
        go_wp2_with (first | (go_at_call 22; (with_reducible refine (laws_eqTree.calls k _ _ t343 _ _ t330 t361 _ ?side1 ?side2 ?side3 ?side4 A97.out).mono ?_); (case side1 => repeat (first | exact (Kd.R_reads' zeb.out).2.2 | (with_reducible refine Kd.C_alloc ?_ _) | (with_reducible refine Kd.C_drewN ?_ _) | (with_reducible refine Kd.C_drew ?_))); (case side2 => exact (Kd.R_reads' zeb.out).2.1); (case side3 => repeat (first | exact (Kd.R_reads' zV.out).2.2 | (with_reducible refine Kd.C_alloc ?_ _) | (with_reducible refine Kd.C_drewN ?_ _) | (with_reducible refine Kd.C_drew ?_))); (case side4 => exact (Kd.R_reads' zV.out).2.1); rintro e w109 ⟨rfl, hb⟩; have n0_ := Aside0.mk (Kd.R_below (RL zN.out) hb); have n1_ := Aside0.mk (Kd.R_below (RL zR.out) hb); have n2_ := Aside0.mk (Kd.R_below (RL zV.out) hb); have n3_ := Aside0.mk (Kd.R_below (RL zY.out) hb); have n4_ := Aside0.mk (Kd.R_below (RL zZ.out) hb); have n5_ := Aside0.mk (Kd.R_below (RL zeb.out) hb); have n6_ := Aside0.mk (Kd.R_below (RL zkb.out) hb); have n7_ := Aside0.mk (Kd.R_below (RL zAb.out) hb); have n8_ := Aside0.mk (zi (g := zE) (o := .cells #[.slice A0_0 l0_0.length c0_0] 45 (0, 0)) (BL zB.out) hb); have n9_ := Aside0.mk (zi (g := zF) (o := .cells #[.int .i64 a1_0, .slice A1_1 l1_1.length c1_1] 48 (0, 0)) (BL zA.out) hb); have n10_ := Aside0.mk (zi (g := zL) (o := .cells #[.slice Ao51 t330.length co51] 25 (0, 0)) (BL zC.out) hb); have n11_ := Aside0.mk (zi (g := zU) (o := .cells #[.slice Ao57 t334.length co57] 25 (0, 0)) (BL zG.out) hb); have n12_ := Aside0.mk (zi (g := zT) (o := .cells #[.int .i64 t338, .slice Ao71 t339.length co71] 55 (0, 0)) (BL zH.out) hb); have n13_ := Aside0.mk (zi (g := zW) (o := .cells #[.slice Ao75 t343.length co75] 25 (0, 0)) (BL zK.out) hb); have n14_ := Aside0.mk (zn (by exact bl HB.out) hb); clear zN; clear zR; clear zV; clear zY; clear zZ; clear zeb; clear zkb; clear zAb; clear zB; clear zA; clear zC; clear zG; clear zH; clear zK; clear HB; have zN := n0_; have zR := n1_; have zV := n2_; have zY := n3_; have zZ := n4_; have zeb := n5_; have zkb := n6_; have zAb := n7_; have zB := n8_; have zA := n9_; have zC := n10_; have zG := n11_; have zH := n12_; have zK := n13_; have HB := n14_; clear n0_ n1_ n2_ n3_ n4_ n5_ n6_ n7_ n8_ n9_ n10_ n11_ n12_ n13_ n14_; (try clear hb); (try clear hb2); (try clear hk); (try clear hi)))
        go_meet
        case rel => exact ⟨_, (!t361), (by first | rfl | (simp [*]; done)), H', ⟨by first | omega | exact Nat.le_refl _⟩, ⟨RL (Kd.R_mono zV.out (fun _ hk => ⟨hk.2.1, hk.2.2.1⟩))⟩, ⟨RL (Kd.R_mono zY.out (fun _ hk => ⟨hk.2.1, hk.2.2.1⟩))⟩, ⟨RL (Kd.R_mono zZ.out (fun _ hk => trivial))⟩, ⟨RL (Kd.R_mono zeb.out (fun _ hk => ⟨hk.2.1, hk.2.2.1⟩))⟩, ⟨BL zB.out⟩, ⟨BL zA.out⟩, ⟨BL zC.out⟩, ⟨BL zG.out⟩, ⟨BL zH.out⟩, ⟨BL zK.out⟩, ⟨by repeat (first | (with_reducible first | exact HB.out | apply zh | apply zf | apply zg | refine zd ?_ zP.out | refine zd ?_ zQ.out | refine zd ?_ zS.out | refine zd ?_ zbb.out | refine zd ?_ zcb.out | refine zd ?_ zdb.out) | exact HB.out)⟩⟩
      case rest =>
       clear HC35
       try clear c1
       try clear c2
       try clear p2
       try clear c5
       try clear c6
       try clear c7
       try clear c8
       try clear c9
       try clear c10
       try clear c18
       try clear c19
       try clear c20
       try clear c21
       try clear c22
       try clear c23
       try clear c24
       try clear c25
       try clear c53
       try clear c58
       try clear c59
       try clear c60
       try clear c62
       try clear c66
       try clear c67
       try clear c68
       try clear c69
       try clear c76
       try clear c77
       try clear c78
       try clear c79
       try clear c80
       try clear c96
       try clear c96b0
       try clear c98
       try clear c99
       try clear c100
       try clear c101
       try clear c102
       try clear c104
       try clear c105
       try clear c106
       try clear c107
       try clear zbc
       try clear zdc
       try clear zfc
       try clear zhc
       try clear zjc
       try clear zkc
       try clear znc
       try clear zoc
       try clear zrc
       try clear ztc
       try clear zvc
       try clear zxc
       try clear zzc
       try clear zAc
       try clear zcc
       try clear zec
       try clear zgc
       try clear zic
       try clear zlc
       try clear zmc
       try clear zpc
       try clear zqc
       try clear zsc
       try clear zuc
       try clear zwc
       try clear zyc
       try clear zBc
       try clear zCc
       obtain ⟨kq, x63_34, rfl, HA, HJ34, zI, zJ, zM, zD, zB, zA, zC, zG, zH, zK, HB⟩ := hcut
       have hl338000_34 := (Kd.R_reads' zJ.out).1
       rw [hl338000_34] at zJ
       (try simp only [hl338000_34])
       (try simp only [hl338000_34] at zB)
       (try simp only [hl338000_34] at zA)
       (try simp only [hl338000_34] at zC)
       (try simp only [hl338000_34] at zG)
       (try simp only [hl338000_34] at zH)
       (try simp only [hl338000_34] at zK)
       (try simp only [hl338000_34] at zI)
       (try simp only [hl338000_34] at zM)
       (try simp only [hl338000_34] at zD)
       have hl343001_34 := (Kd.R_reads' zM.out).1
       rw [hl343001_34] at zM
       (try simp only [hl343001_34])
       (try simp only [hl343001_34] at zB)
       (try simp only [hl343001_34] at zA)
       (try simp only [hl343001_34] at zC)
       (try simp only [hl343001_34] at zG)
       (try simp only [hl343001_34] at zH)
       (try simp only [hl343001_34] at zK)
       (try simp only [hl343001_34] at zI)
       (try simp only [hl343001_34] at zJ)
       (try simp only [hl343001_34] at zD)
       cases kq with
       | zero => exact absurd HA.out (by simp [laws_FnExactApplyTxn.j0])
       | succ kj34 =>
        have H := HA.out
        clear HA
        simp only [laws_FnExactApplyTxn.j0] at H
        by_cases c110 : x63_34 = true
        ·subst c110
         rw [if_pos rfl] at H
         exact absurd H (by simp)
        ·replace c110 := Bool.eq_false_iff.mpr c110
         subst c110
         rw [if_neg (show ¬ (false = true) by decide)] at H
         replace H := Option.bind_eq_some_iff.mp H
         obtain ⟨⟨t362, t363⟩, A1110, H⟩ := H
         try dsimp only at H
         have A111 := Aside0.mk A1110
         clear A1110
         replace H := Option.bind_eq_some_iff.mp H
         obtain ⟨t364, A1120, H⟩ := H
         try dsimp only at H
         have A112 := Aside0.mk A1120
         clear A1120
         by_cases c113 : t364 < 0
         ·rw [if_pos c113] at H
          have c113b0 : decide (t364 < 0) = true := decide_eq_true c113
          clear c113
          exact absurd H (by simp)
         ·rw [if_neg c113] at H
          have c113b0 : decide (t364 < 0) = false := decide_eq_false c113
          clear c113
          by_cases c123 : t364 = t362
          ·rw [if_pos c123] at H
           have c123b0 : (t364 == t362) = true := beq_iff_eq.mpr c123
           have c123b1 : (t364 != t362) = false := bne_eq_false_iff_eq.mpr c123
           clear c123
           replace H := Option.bind_eq_some_iff.mp H
           obtain ⟨t365, A1240, H⟩ := H
           try dsimp only at H
           have A124 := Aside0.mk A1240
           clear A1240
           replace H := Option.bind_eq_some_iff.mp H
           obtain ⟨⟨t368, t369⟩, A1250, H⟩ := H
           try dsimp only at H
           have A125 := Aside0.mk A1250
           clear A1250
           replace H := Option.bind_eq_some_iff.mp H
           obtain ⟨t372, A1260, H⟩ := H
           try dsimp only at H
           have A126 := Aside0.mk A1260
           clear A1260
           replace H := Option.bind_eq_some_iff.mp H
           obtain ⟨t376, A1270, H⟩ := H
           try dsimp only at H
           have A127 := Aside0.mk A1270
           clear A1270
           by_cases c128 : t376 = true
           ·subst c128
            rw [if_pos rfl] at H
            obtain rfl := Option.some.inj H
            have znd := zPb.out
            have zod := zFb.out
            have zpd := zQb.out
            have zqd := zGb.out
            have zrd := zRb.out
            have zsd := zHb.out
            have ztd := zSb.out
            have zud := zIb.out
            have zvd := zTb.out
            have zwd := zJb.out
            have zDc : wc.cell? ⟨zW, 0, none⟩ = some (.slice Ao75 t343.length co75) := (zc zK.out 0).trans rfl
            have zEc := ze zK.out 0
            try go_wp2_with (first | ((with_reducible refine zr (f := 24) rfl ?_); refine zz (some 66) rfl rfl Tryd.func24 (by kernel_rfl) rfl #[.agg #[.slice Ao75 t343.length co75], .int .i64 1] rfl (by (try simp only [List.map_toArray, List.map_cons, List.map_nil]); first | done | rfl) ?_; (with_reducible refine (laws_markTree.calls kj34 (fun k_ => some k_ = (.slice Ao75 t343.length co75 : Value).ownBlock) (.slice Ao75 t343.length co75) t343 1 t362 t363 w _ ?side1 ?side2 A111.out).mono ?_); (case side1 => exact bl HB.out); (case side2 => exact Kd.R_tight rfl zD.out); rintro e w135 ⟨rfl, hy0, hb, hkp⟩; refine ⟨_, rfl, ?_⟩; have n0_ := Aside0.mk (Kd.R_mono (ok' := fun k_ => some k_ ≠ (.slice Ao57 t358.length co57 : Value).ownBlock ∧ some k_ ≠ (.slice Ao75 t343.length co75 : Value).ownBlock) (Kd.R_keptB (zI.out) hkp (fun k_ hk_ hs_ => by first | exact (hk_.2) hs_ | exact hk_.1 hs_ | exact hk_.2 hs_ | exact hk_.1.1 hs_ | exact hk_.1.2 hs_ | exact hk_.2.1 hs_ | exact hk_.2.2 hs_)) (fun k_ hk_ => by first | exact ⟨hk_.1.1, hk_.1.2⟩ | exact hk_.1 | exact ⟨hk_.1.1, hk_.1.2⟩ | exact ⟨hk_.1.2, hk_.1.1⟩ | exact hk_.1.1 | exact hk_.1.2)); have n1_ := Aside0.mk (Kd.R_mono (ok' := fun k_ => some k_ ≠ (.slice Ao51 t330.length co51 : Value).ownBlock ∧ some k_ ≠ (.slice Ao75 t343.length co75 : Value).ownBlock) (Kd.R_keptB (zJ.out) hkp (fun k_ hk_ hs_ => by first | exact (hk_.2) hs_ | exact hk_.1 hs_ | exact hk_.2 hs_ | exact hk_.1.1 hs_ | exact hk_.1.2 hs_ | exact hk_.2.1 hs_ | exact hk_.2.2 hs_)) (fun k_ hk_ => by first | exact ⟨hk_.1.1, hk_.1.2⟩ | exact hk_.1 | exact ⟨hk_.1.1, hk_.1.2⟩ | exact ⟨hk_.1.2, hk_.1.1⟩ | exact hk_.1.1 | exact hk_.1.2)); have n2_ := Aside0.mk (Kd.R_mono (ok' := fun k_ => True) (Kd.R_keptB ((Kd.R_apart' zM.out (Kd.R_typed zD.out) (by decide))) hkp (fun k_ hk_ hs_ => (hk_.2) hs_)) (fun k_ hk_ => trivial)); have n3_ := Aside0.mk (Kd.R_reok rfl hy0 (fun k_ e_ => zD.out.1 k_ e_)); have n4_ := Aside0.mk (blk_kept (BL zB.out) hkp (fun hs_ => (fun e_ => (Kd.R_ne zD.out zB.out (by decide)) e_) hs_)); have n5_ := Aside0.mk (blk_kept (BL zA.out) hkp (fun hs_ => (fun e_ => (Kd.R_ne zD.out zA.out (by decide)) e_) hs_)); have n6_ := Aside0.mk (blk_kept (BL zC.out) hkp (fun hs_ => (fun e_ => (Kd.R_ne zD.out zC.out (by decide)) e_) hs_)); have n7_ := Aside0.mk (blk_kept (BL zG.out) hkp (fun hs_ => (fun e_ => (Kd.R_ne zD.out zG.out (by decide)) e_) hs_)); have n8_ := Aside0.mk (blk_kept (BL zH.out) hkp (fun hs_ => (fun e_ => (Kd.R_ne zD.out zH.out (by decide)) e_) hs_)); have n9_ := Aside0.mk (blk_kept (BL zK.out) hkp (fun hs_ => (fun e_ => (Kd.R_ne zD.out zK.out (by decide)) e_) hs_)); have n10_ := Aside0.mk (hb); clear zI; clear zJ; clear zM; clear zD; clear zB; clear zA; clear zC; clear zG; clear zH; clear zK; clear HB; have zI := n0_; have zJ := n1_; have zM := n2_; have zD := n3_; have zB := n4_; have zA := n5_; have zC := n6_; have zG := n7_; have zH := n8_; have zK := n9_; have HB := n10_; clear n0_ n1_ n2_ n3_ n4_ n5_ n6_ n7_ n8_ n9_ n10_; (try clear hb); (try clear hkp); (try clear hy0); have zFc : w135.cell? ⟨zW, 0, none⟩ = some (.slice Ao75 t343.length co75) := (zc zK.out 0).trans rfl; have zGc := ze zK.out 0) | ((with_reducible refine zr (f := 26) rfl ?_); refine zz (some 69) rfl rfl Tryd.func26 (by kernel_rfl) rfl #[.agg #[.slice Ao75 t363.length co75], .int .i64 1] rfl (by (try simp only [List.map_toArray, List.map_cons, List.map_nil]); first | done | (rw [show t363.length = t343.length from (Kd.R_reads' zD.out).1.symm] <;> rfl) | rfl | (simp only [List.length_drop, List.length_take]; rfl)) ?_; (with_reducible refine (laws_heldTree.calls kj34 _ _ t363 1 t364 _ ?side1 ?side2 A112.out).mono ?_); (case side1 => repeat (first | exact (Kd.R_reads' zD.out).2.2 | (with_reducible refine Kd.C_alloc ?_ _) | (with_reducible refine Kd.C_drewN ?_ _) | (with_reducible refine Kd.C_drew ?_))); (case side2 => rw [show t363.length = t343.length from (Kd.R_reads' zD.out).1.symm]; exact (Kd.R_reads' zD.out).2.1); rintro e w137 ⟨rfl, hb⟩; refine ⟨_, rfl, ?_⟩; have n0_ := Aside0.mk (Kd.R_below (RL zI.out) hb); have n1_ := Aside0.mk (Kd.R_below (RL zJ.out) hb); have n2_ := Aside0.mk (Kd.R_below (RL zM.out) hb); have n3_ := Aside0.mk (Kd.R_below (RL zD.out) hb); have n4_ := Aside0.mk (zi (g := zE) (o := .cells #[.slice A0_0 l0_0.length c0_0] 45 (0, 0)) (BL zB.out) hb); have n5_ := Aside0.mk (zi (g := zF) (o := .cells #[.int .i64 a1_0, .slice A1_1 l1_1.length c1_1] 48 (0, 0)) (BL zA.out) hb); have n6_ := Aside0.mk (zi (g := zL) (o := .cells #[.slice Ao51 t330.length co51] 25 (0, 0)) (BL zC.out) hb); have n7_ := Aside0.mk (zi (g := zU) (o := .cells #[.slice Ao57 t358.length co57] 25 (0, 0)) (BL zG.out) hb); have n8_ := Aside0.mk (zi (g := zT) (o := .cells #[.int .i64 t338, .slice Ao71 t360.length co71] 55 (0, 0)) (BL zH.out) hb); have n9_ := Aside0.mk (zi (g := zW) (o := .cells #[.slice Ao75 t343.length co75] 25 (0, 0)) (BL zK.out) hb); have n10_ := Aside0.mk (zn (by exact bl HB.out) hb); clear zI; clear zJ; clear zM; clear zD; clear zB; clear zA; clear zC; clear zG; clear zH; clear zK; clear HB; have zI := n0_; have zJ := n1_; have zM := n2_; have zD := n3_; have zB := n4_; have zA := n5_; have zC := n6_; have zG := n7_; have zH := n8_; have zK := n9_; have HB := n10_; clear n0_ n1_ n2_ n3_ n4_ n5_ n6_ n7_ n8_ n9_ n10_; (try clear hb); (try clear hb2); (try clear hk); (try clear hi)))
            have n0_ := Aside0.mk (Kd.R_drew zI.out)
            have n1_ := Aside0.mk (Kd.R_drew zJ.out)
            have n2_ := Aside0.mk (Kd.R_drew zM.out)
            have n3_ := Aside0.mk (Kd.R_drew zD.out)
            have n4_ := Aside0.mk (zl zB.out)
            have n5_ := Aside0.mk (zl zA.out)
            have n6_ := Aside0.mk (zl zC.out)
            have n7_ := Aside0.mk (zl zG.out)
            have n8_ := Aside0.mk (zl zH.out)
            have n9_ := Aside0.mk (zl zK.out)
            have n10_ := Aside0.mk (zg HB.out)
            clear zI
            clear zJ
            clear zM
            clear zD
            clear zB
            clear zA
            clear zC
            clear zG
            clear zH
            clear zK
            clear HB
            have zI := n0_
            have zJ := n1_
            have zM := n2_
            have zD := n3_
            have zB := n4_
            have zA := n5_
            have zC := n6_
            have zG := n7_
            have zH := n8_
            have zK := n9_
            have HB := n10_
            clear n0_ n1_ n2_ n3_ n4_ n5_ n6_ n7_ n8_ n9_ n10_
            refine start_ (n := 7) (S := fun w' => w'.cell? ⟨zE, 0, none⟩ = some (.slice A0_0 l0_0.length c0_0) ∧ w'.cell? ⟨zF, 0, none⟩ = some (.int .i64 a1_0) ∧ w'.cell? ⟨zF, 1, none⟩ = some (.slice A1_1 l1_1.length c1_1)) (ds := []) #[false, false, false, false, false, false, false] (by kernel_rfl) rfl rfl ⟨(zc zB.out 0).trans rfl, (zc zA.out 0).trans rfl, (zc zA.out 1).trans rfl⟩ (fun hHeld => ?_)
            generalize w137.drew = w138 at zI zJ zM zD zB zA zC zG zH zK HB hHeld ⊢
            refine ta 0 75 rfl rfl (by kernel_rfl) (fun _ _ _ _ h => h) (by rfl) hHeld ⟨_, _, by rintro w' ⟨s0, s1, s2⟩; go_simp; rfl, by simp only [pt, ps, p0, p1, zo, zp]; rfl, ?_⟩
            refine ta 2 77 rfl rfl (by kernel_rfl) (fun _ _ _ _ h => h) (by rfl) hHeld ⟨_, _, by rintro w' ⟨s0, s1, s2⟩; go_simp; rfl, by simp only [pt, ps, p0, p1, zo, zp]; rfl, ?_⟩
            refine join_ (σ := Value × Value × Value × Nat) 1 #[true, true, true, true, true, true, false] (fun s_ => [(76, .agg #[s_.1]), (78, .agg #[.int .i64 t368, s_.2.1]), (79, .agg #[s_.2.2.1]), (13, .pointer (some ⟨s_.2.2.2, 0, none⟩))]) (fun s_ w' => (w'.cell? ⟨zE, 0, none⟩ = some (.slice A0_0 l0_0.length c0_0) ∧ w'.cell? ⟨zF, 0, none⟩ = some (.int .i64 a1_0) ∧ w'.cell? ⟨zF, 1, none⟩ = some (.slice A1_1 l1_1.length c1_1)) ∧ (Kd.R k77 77 w' w.heap.size (fun k_ => some k_ ≠ (s_.2.2.1 : Value).ownBlock ∧ some k_ ≠ (.slice Ao51 t330.length co51 : Value).ownBlock ∧ some k_ ≠ (.slice Ao57 t358.length co57 : Value).ownBlock ∧ some k_ ≠ (.slice Ao75 t343.length co75 : Value).ownBlock) s_.1 t365) ∧ (Kd.R k108 108 w' w.heap.size (fun k_ => some k_ ≠ (.slice Ao71 t360.length co71 : Value).ownBlock) s_.2.1 t369) ∧ (Kd.R k77 77 w' w.heap.size (fun k_ => some k_ ≠ (s_.1 : Value).ownBlock ∧ some k_ ≠ (.slice Ao51 t330.length co51 : Value).ownBlock ∧ some k_ ≠ (.slice Ao57 t358.length co57 : Value).ownBlock ∧ some k_ ≠ (.slice Ao75 t343.length co75 : Value).ownBlock) s_.2.2.1 t372) ∧ (Kd.R k77 77 w' w.heap.size (fun k_ => some k_ ≠ (s_.1 : Value).ownBlock ∧ some k_ ≠ (s_.2.2.1 : Value).ownBlock ∧ some k_ ≠ (.slice Ao57 t358.length co57 : Value).ownBlock ∧ some k_ ≠ (.slice Ao75 t343.length co75 : Value).ownBlock) (.slice Ao51 t330.length co51) t330) ∧ (Kd.R k77 77 w' w.heap.size (fun k_ => some k_ ≠ (s_.1 : Value).ownBlock ∧ some k_ ≠ (s_.2.2.1 : Value).ownBlock ∧ some k_ ≠ (.slice Ao51 t330.length co51 : Value).ownBlock ∧ some k_ ≠ (.slice Ao75 t343.length co75 : Value).ownBlock) (.slice Ao57 t358.length co57) t358) ∧ (Kd.R k108 108 w' w.heap.size (fun k_ => some k_ ≠ (s_.2.1 : Value).ownBlock) (.slice Ao71 t360.length co71) t360) ∧ (Kd.R k77 77 w' w.heap.size (fun k_ => some k_ ≠ (s_.1 : Value).ownBlock ∧ some k_ ≠ (s_.2.2.1 : Value).ownBlock ∧ some k_ ≠ (.slice Ao51 t330.length co51 : Value).ownBlock ∧ some k_ ≠ (.slice Ao57 t358.length co57 : Value).ownBlock) (.slice Ao75 t343.length co75) t363) ∧ (w'.heap[zE]? = some (.cells #[.slice A0_0 l0_0.length c0_0] 45 (0, 0))) ∧ (w'.heap[zF]? = some (.cells #[.int .i64 a1_0, .slice A1_1 l1_1.length c1_1] 48 (0, 0))) ∧ (w'.heap[zL]? = some (.cells #[.slice Ao51 t330.length co51] 25 (0, 0))) ∧ (w'.heap[zU]? = some (.cells #[.slice Ao57 t358.length co57] 25 (0, 0))) ∧ (w'.heap[zT]? = some (.cells #[.int .i64 t338, .slice Ao71 t360.length co71] 55 (0, 0))) ∧ (w'.heap[zW]? = some (.cells #[.slice Ao75 t343.length co75] 25 (0, 0))) ∧ (w'.heap[s_.2.2.2]? = some (.cells #[.slice none 0 0] 25 (0, 0))) ∧ (w.heap.size ≤ s_.2.2.2) ∧ (w.heap.size ≤ s_.2.2.2) ∧ (zE ≠ s_.2.2.2) ∧ (s_.2.2.2 ≠ zE) ∧ (zF ≠ s_.2.2.2) ∧ (s_.2.2.2 ≠ zF) ∧ (zL ≠ s_.2.2.2) ∧ (s_.2.2.2 ≠ zL) ∧ (zU ≠ s_.2.2.2) ∧ (s_.2.2.2 ≠ zU) ∧ (zT ≠ s_.2.2.2) ∧ (s_.2.2.2 ≠ zT) ∧ (zW ≠ s_.2.2.2) ∧ (s_.2.2.2 ≠ zW) ∧ (Below w.heap.size w w')) ?_ ?_
            rotate_left
            ·intro hCont
             refine two_ (i := 1) (j := 5) (Ni := some 76) (Nj := some 13) #[true, true, true, false, false, false, false] #[true, false, true, false, false, true, false] rfl rfl rfl rfl (by kernel_rfl) (by decide) (by decide) (fun K hK => ?_) (fun K hK => ?_)
             ·skip
              refine goes_ Tryd.func19 (by kernel_rfl) rfl #[.agg #[.slice A0_0 l0_0.length c0_0]] (by rfl) rfl rfl (by (try simp only [List.map_toArray, List.map_cons, List.map_nil]); first | done | rfl) ?_
              with_reducible refine (laws_toTree.calls kj34 _ _ l0_0 t365 _ ?side1 ?side2 A124.out).mono ?_
              (case side1 => repeat (first | exact (Kd.C_below HR0_0.out HB.out) | (with_reducible refine Kd.C_alloc ?_ _) | (with_reducible refine Kd.C_drewN ?_ _) | (with_reducible refine Kd.C_drew ?_)))
              (case side2 => exact HC0_0.out)
              rintro e w139 ⟨v366, rfl, zX, hb⟩
              refine ⟨_, rfl, ?_⟩
              have n0_ := Aside0.mk (Kd.R_elder' (RL zI.out) (Kd.R_base zX) hb)
              have n1_ := Aside0.mk (Kd.R_elder' (RL zJ.out) (Kd.R_base zX) hb)
              have n2_ := Aside0.mk (Kd.R_below (RL zM.out) hb)
              have n3_ := Aside0.mk (Kd.R_elder' (RL zD.out) (Kd.R_base zX) hb)
              have n4_ := Aside0.mk (Kd.R_lower (Kd.R_new' (Kd.R_new' (Kd.R_new' zX (Kd.R_lt (RL zI.out))) (Kd.R_lt (RL zJ.out))) (Kd.R_lt (RL zD.out))) (zm (by repeat (first | (with_reducible first | exact HB.out | apply zh | apply zf | apply zg | refine zd ?_ zP.out | refine zd ?_ zQ.out | refine zd ?_ zS.out | refine zd ?_ zbb.out | refine zd ?_ zcb.out | refine zd ?_ zdb.out) | exact HB.out))))
              have n5_ := Aside0.mk (zi (g := zE) (o := .cells #[.slice A0_0 l0_0.length c0_0] 45 (0, 0)) (BL zB.out) hb)
              have n6_ := Aside0.mk (zi (g := zF) (o := .cells #[.int .i64 a1_0, .slice A1_1 l1_1.length c1_1] 48 (0, 0)) (BL zA.out) hb)
              have n7_ := Aside0.mk (zi (g := zL) (o := .cells #[.slice Ao51 t330.length co51] 25 (0, 0)) (BL zC.out) hb)
              have n8_ := Aside0.mk (zi (g := zU) (o := .cells #[.slice Ao57 t358.length co57] 25 (0, 0)) (BL zG.out) hb)
              have n9_ := Aside0.mk (zi (g := zT) (o := .cells #[.int .i64 t338, .slice Ao71 t360.length co71] 55 (0, 0)) (BL zH.out) hb)
              have n10_ := Aside0.mk (zi (g := zW) (o := .cells #[.slice Ao75 t343.length co75] 25 (0, 0)) (BL zK.out) hb)
              have n11_ := Aside0.mk (zn (by repeat (first | (with_reducible first | exact HB.out | apply zh | apply zf | apply zg | refine zd ?_ zP.out | refine zd ?_ zQ.out | refine zd ?_ zS.out | refine zd ?_ zbb.out | refine zd ?_ zcb.out | refine zd ?_ zdb.out) | exact HB.out)) hb)
              clear zI
              clear zJ
              clear zM
              clear zD
              clear zB
              clear zA
              clear zC
              clear zG
              clear zH
              clear zK
              clear HB
              have zI := n0_
              have zJ := n1_
              have zM := n2_
              have zD := n3_
              have zab := n4_
              have zB := n5_
              have zA := n6_
              have zC := n7_
              have zG := n8_
              have zH := n9_
              have zK := n10_
              have HB := n11_
              clear n0_ n1_ n2_ n3_ n4_ n5_ n6_ n7_ n8_ n9_ n10_ n11_
              (try clear hb)
              (try clear hb2)
              (try clear hk)
              (try clear hi)
              (try clear zX)
              refine hK.out _ _ ⟨(zc zB.out 0).trans rfl, (zc zA.out 0).trans rfl, (zc zA.out 1).trans rfl⟩ (fun hHeld => ?_)
              clear hK K
              refine norm_ (a' := ?_) ?_ ?_
              rotate_left
              ·show Act.put _ (some 76) _ = _
               simp only [pt, ps, p0, p1, zo, zp]
               rfl
              refine two_ (i := 3) (j := 5) (Ni := some 78) (Nj := some 13) #[true, true, true, true, false, false, false] #[true, true, true, false, false, true, false] rfl rfl rfl rfl (by kernel_rfl) (by decide) (by decide) (fun K hK => ?_) (fun K hK => ?_)
              ·skip
               refine goes_ Tryd.func20 (by kernel_rfl) rfl #[.agg #[.int .i64 a1_0, .slice A1_1 l1_1.length c1_1]] (by rfl) rfl rfl (by (try simp only [List.map_toArray, List.map_cons, List.map_nil]); first | done | rfl) ?_
               with_reducible refine (laws_toTxn.calls kj34 a1_0 _ _ l1_1 t368 t369 _ ?side1 ?side2 A125.out).mono ?_
               (case side1 => repeat (first | exact (Kd.C_below HR1_1.out HB.out) | (with_reducible refine Kd.C_alloc ?_ _) | (with_reducible refine Kd.C_drewN ?_ _) | (with_reducible refine Kd.C_drew ?_)))
               (case side2 => exact HC1_1.out)
               rintro e w140 ⟨v370, rfl, zX, hb⟩
               refine ⟨_, rfl, ?_⟩
               have n0_ := Aside0.mk (Kd.R_below (RL zI.out) hb)
               have n1_ := Aside0.mk (Kd.R_below (RL zJ.out) hb)
               have n2_ := Aside0.mk (Kd.R_elder' (RL zM.out) (Kd.R_base zX) hb)
               have n3_ := Aside0.mk (Kd.R_below (RL zD.out) hb)
               have n4_ := Aside0.mk (Kd.R_below (RL zab.out) hb)
               have n5_ := Aside0.mk (Kd.R_lower (Kd.R_new' zX (Kd.R_lt (RL zM.out))) (zm (by repeat (first | (with_reducible first | exact HB.out | apply zh | apply zf | apply zg | refine zd ?_ zP.out | refine zd ?_ zQ.out | refine zd ?_ zS.out | refine zd ?_ zbb.out | refine zd ?_ zcb.out | refine zd ?_ zdb.out) | exact HB.out))))
               have n6_ := Aside0.mk (zi (g := zE) (o := .cells #[.slice A0_0 l0_0.length c0_0] 45 (0, 0)) (BL zB.out) hb)
               have n7_ := Aside0.mk (zi (g := zF) (o := .cells #[.int .i64 a1_0, .slice A1_1 l1_1.length c1_1] 48 (0, 0)) (BL zA.out) hb)
               have n8_ := Aside0.mk (zi (g := zL) (o := .cells #[.slice Ao51 t330.length co51] 25 (0, 0)) (BL zC.out) hb)
               have n9_ := Aside0.mk (zi (g := zU) (o := .cells #[.slice Ao57 t358.length co57] 25 (0, 0)) (BL zG.out) hb)
               have n10_ := Aside0.mk (zi (g := zT) (o := .cells #[.int .i64 t338, .slice Ao71 t360.length co71] 55 (0, 0)) (BL zH.out) hb)
               have n11_ := Aside0.mk (zi (g := zW) (o := .cells #[.slice Ao75 t343.length co75] 25 (0, 0)) (BL zK.out) hb)
               have n12_ := Aside0.mk (zn (by repeat (first | (with_reducible first | exact HB.out | apply zh | apply zf | apply zg | refine zd ?_ zP.out | refine zd ?_ zQ.out | refine zd ?_ zS.out | refine zd ?_ zbb.out | refine zd ?_ zcb.out | refine zd ?_ zdb.out) | exact HB.out)) hb)
               clear zI
               clear zJ
               clear zM
               clear zD
               clear zab
               clear zB
               clear zA
               clear zC
               clear zG
               clear zH
               clear zK
               clear HB
               have zI := n0_
               have zJ := n1_
               have zM := n2_
               have zD := n3_
               have zab := n4_
               have zfb := n5_
               have zB := n6_
               have zA := n7_
               have zC := n8_
               have zG := n9_
               have zH := n10_
               have zK := n11_
               have HB := n12_
               clear n0_ n1_ n2_ n3_ n4_ n5_ n6_ n7_ n8_ n9_ n10_ n11_ n12_
               (try clear hb)
               (try clear hb2)
               (try clear hk)
               (try clear hi)
               (try clear zX)
               obtain ⟨Ao141, co141, eo141⟩ := Kd.R_slice zab.out
               (first | subst eo141 | (injection eo141 with f1_ f2_ f3_; have f4_ := f1_.symm; have f5_ := f3_.symm; clear f1_ f2_ f3_; subst f4_; subst f5_))
               obtain ⟨Ao142, co142, eo142⟩ := Kd.R_slice zfb.out
               (first | subst eo142 | (injection eo142 with f1_ f2_ f3_; have f4_ := f1_.symm; have f5_ := f3_.symm; clear f1_ f2_ f3_; subst f4_; subst f5_))
               refine hK.out _ _ ⟨(zc zB.out 0).trans rfl, (zc zA.out 0).trans rfl, (zc zA.out 1).trans rfl⟩ (fun hHeld => ?_)
               clear hK K
               refine norm_ (a' := ?_) ?_ ?_
               rotate_left
               ·show Act.put _ (some 78) _ = _
                simp only [pt, ps, p0, p1, zo, zp]
                rfl
               refine two_ (i := 4) (j := 5) (Ni := some 79) (Nj := some 13) #[true, true, true, true, true, false, false] #[true, true, true, true, false, true, false] rfl rfl rfl rfl (by kernel_rfl) (by decide) (by decide) (fun K hK => ?_) (fun K hK => ?_)
               ·skip
                refine goes_ Tryd.func21 (by kernel_rfl) rfl #[.agg #[.slice Ao141 t365.length co141], .agg #[.int .i64 t368, .slice Ao142 t369.length co142]] (by rfl) rfl rfl (by (try simp only [List.map_toArray, List.map_cons, List.map_nil]); first | done | rfl) ?_
                with_reducible refine (impl_ApplyTxn.calls kj34 _ _ t365 t368 _ _ t369 t372 _ ?side1 ?side2 ?side3 ?side4 A126.out ?globMAX_).mono ?_; (case globMAX_ => exact Go.Proofs.YtfiojiokmkiflaaDoorH.GFMAX.below HGMAX_.out (by repeat (first | (with_reducible first | exact HB.out | exact Below.refl _ _ | apply zh | apply zf | apply zg | refine zd ?_ (Aside0.out (by assumption))) | exact HB.out)))
                (case side1 => repeat (first | exact (Kd.R_reads' zab.out).2.2 | (with_reducible refine Kd.C_alloc ?_ _) | (with_reducible refine Kd.C_drewN ?_ _) | (with_reducible refine Kd.C_drew ?_)))
                (case side2 => exact (Kd.R_reads' zab.out).2.1)
                (case side3 => repeat (first | exact (Kd.R_reads' zfb.out).2.2 | (with_reducible refine Kd.C_alloc ?_ _) | (with_reducible refine Kd.C_drewN ?_ _) | (with_reducible refine Kd.C_drew ?_)))
                (case side4 => exact (Kd.R_reads' zfb.out).2.1)
                rintro e w143 ⟨v373, rfl, zX, hb⟩
                refine ⟨_, rfl, ?_⟩
                have n0_ := Aside0.mk (Kd.R_elder' (RL zI.out) (Kd.R_base zX) hb)
                have n1_ := Aside0.mk (Kd.R_elder' (RL zJ.out) (Kd.R_base zX) hb)
                have n2_ := Aside0.mk (Kd.R_below (RL zM.out) hb)
                have n3_ := Aside0.mk (Kd.R_elder' (RL zD.out) (Kd.R_base zX) hb)
                have n4_ := Aside0.mk (Kd.R_elder' (RL zab.out) (Kd.R_base zX) hb)
                have n5_ := Aside0.mk (Kd.R_below (RL zfb.out) hb)
                have n6_ := Aside0.mk (Kd.R_lower (Kd.R_new' (Kd.R_new' (Kd.R_new' (Kd.R_new' zX (Kd.R_lt (RL zI.out))) (Kd.R_lt (RL zJ.out))) (Kd.R_lt (RL zD.out))) (Kd.R_lt (RL zab.out))) (zm (by repeat (first | (with_reducible first | exact HB.out | apply zh | apply zf | apply zg | refine zd ?_ zP.out | refine zd ?_ zQ.out | refine zd ?_ zS.out | refine zd ?_ zbb.out | refine zd ?_ zcb.out | refine zd ?_ zdb.out) | exact HB.out))))
                have n7_ := Aside0.mk (zi (g := zE) (o := .cells #[.slice A0_0 l0_0.length c0_0] 45 (0, 0)) (BL zB.out) hb)
                have n8_ := Aside0.mk (zi (g := zF) (o := .cells #[.int .i64 a1_0, .slice A1_1 l1_1.length c1_1] 48 (0, 0)) (BL zA.out) hb)
                have n9_ := Aside0.mk (zi (g := zL) (o := .cells #[.slice Ao51 t330.length co51] 25 (0, 0)) (BL zC.out) hb)
                have n10_ := Aside0.mk (zi (g := zU) (o := .cells #[.slice Ao57 t358.length co57] 25 (0, 0)) (BL zG.out) hb)
                have n11_ := Aside0.mk (zi (g := zT) (o := .cells #[.int .i64 t338, .slice Ao71 t360.length co71] 55 (0, 0)) (BL zH.out) hb)
                have n12_ := Aside0.mk (zi (g := zW) (o := .cells #[.slice Ao75 t343.length co75] 25 (0, 0)) (BL zK.out) hb)
                have n13_ := Aside0.mk (zn (by repeat (first | (with_reducible first | exact HB.out | apply zh | apply zf | apply zg | refine zd ?_ zP.out | refine zd ?_ zQ.out | refine zd ?_ zS.out | refine zd ?_ zbb.out | refine zd ?_ zcb.out | refine zd ?_ zdb.out) | exact HB.out)) hb)
                clear zI
                clear zJ
                clear zM
                clear zD
                clear zab
                clear zfb
                clear zB
                clear zA
                clear zC
                clear zG
                clear zH
                clear zK
                clear HB
                have zI := n0_
                have zJ := n1_
                have zM := n2_
                have zD := n3_
                have zab := n4_
                have zfb := n5_
                have zzb := n6_
                have zB := n7_
                have zA := n8_
                have zC := n9_
                have zG := n10_
                have zH := n11_
                have zK := n12_
                have HB := n13_
                clear n0_ n1_ n2_ n3_ n4_ n5_ n6_ n7_ n8_ n9_ n10_ n11_ n12_ n13_
                (try clear hb)
                (try clear hb2)
                (try clear hk)
                (try clear hi)
                (try clear zX)
                refine hK.out _ _ ⟨(zc zB.out 0).trans rfl, (zc zA.out 0).trans rfl, (zc zA.out 1).trans rfl⟩ (fun hHeld => ?_)
                clear hK K
                refine norm_ (a' := ?_) ?_ ?_
                rotate_left
                ·show Act.put _ (some 79) _ = _
                 simp only [pt, ps, p0, p1, zo, zp]
                 rfl
                refine one_ (i := 5) (N := some 13) #[true, true, true, true, true, true, false] rfl rfl (by kernel_rfl) (by decide) (fun K hK => ?_)
                refine box_step ?hg (N := 13) ?hd (cs := #[.slice none 0 0]) (t := 25) ?hr ?_; (case hd => rfl); (case hg => rfl); (case hr => first | (go_simp; done) | (go_simp; rfl))
                intro zO hg w144 hbox hb
                have n0_ := Aside0.mk (Kd.R_below (RL zI.out) hb)
                have n1_ := Aside0.mk (Kd.R_below (RL zJ.out) hb)
                have n2_ := Aside0.mk (Kd.R_below (RL zM.out) hb)
                have n3_ := Aside0.mk (Kd.R_below (RL zD.out) hb)
                have n4_ := Aside0.mk (Kd.R_below (RL zab.out) hb)
                have n5_ := Aside0.mk (Kd.R_below (RL zfb.out) hb)
                have n6_ := Aside0.mk (Kd.R_below (RL zzb.out) hb)
                have n7_ := Aside0.mk (zi (g := zE) (o := .cells #[.slice A0_0 l0_0.length c0_0] 45 (0, 0)) (BL zB.out) hb)
                have n8_ := Aside0.mk (zi (g := zF) (o := .cells #[.int .i64 a1_0, .slice A1_1 l1_1.length c1_1] 48 (0, 0)) (BL zA.out) hb)
                have n9_ := Aside0.mk (zi (g := zL) (o := .cells #[.slice Ao51 t330.length co51] 25 (0, 0)) (BL zC.out) hb)
                have n10_ := Aside0.mk (zi (g := zU) (o := .cells #[.slice Ao57 t358.length co57] 25 (0, 0)) (BL zG.out) hb)
                have n11_ := Aside0.mk (zi (g := zT) (o := .cells #[.int .i64 t338, .slice Ao71 t360.length co71] 55 (0, 0)) (BL zH.out) hb)
                have n12_ := Aside0.mk (zi (g := zW) (o := .cells #[.slice Ao75 t343.length co75] 25 (0, 0)) (BL zK.out) hb)
                have n13_ := Aside0.mk (zn (by repeat (first | (with_reducible first | exact HB.out | apply zh | apply zf | apply zg | refine zd ?_ zP.out | refine zd ?_ zQ.out | refine zd ?_ zS.out | refine zd ?_ zbb.out | refine zd ?_ zcb.out | refine zd ?_ zdb.out) | exact HB.out)) hb)
                have n14_ := Aside0.mk (hbox)
                have n15_ := Aside0.mk ((by rw [hg]; exact (zm (by repeat (first | (with_reducible first | exact HB.out | apply zh | apply zf | apply zg | refine zd ?_ zP.out | refine zd ?_ zQ.out | refine zd ?_ zS.out | refine zd ?_ zbb.out | refine zd ?_ zcb.out | refine zd ?_ zdb.out) | exact HB.out))) : w.heap.size ≤ zO))
                have n16_ := Aside0.mk ((by rw [hg]; exact (zm (by repeat (first | (with_reducible first | exact HB.out | apply zh | apply zf | apply zg | refine zd ?_ zP.out | refine zd ?_ zQ.out | refine zd ?_ zS.out | refine zd ?_ zbb.out | refine zd ?_ zcb.out | refine zd ?_ zdb.out) | exact HB.out))) : w.heap.size ≤ zO))
                have n17_ := Aside0.mk ((by rw [hg]; exact Nat.ne_of_lt (zt (g := zE) (o := .cells #[.slice A0_0 l0_0.length c0_0] 45 (0, 0)) (BL zB.out)) : zE ≠ zO))
                have n18_ := Aside0.mk ((by rw [hg]; exact Nat.ne_of_gt (zt (g := zE) (o := .cells #[.slice A0_0 l0_0.length c0_0] 45 (0, 0)) (BL zB.out)) : zO ≠ zE))
                have n19_ := Aside0.mk ((by rw [hg]; exact Nat.ne_of_lt (zt (g := zF) (o := .cells #[.int .i64 a1_0, .slice A1_1 l1_1.length c1_1] 48 (0, 0)) (BL zA.out)) : zF ≠ zO))
                have n20_ := Aside0.mk ((by rw [hg]; exact Nat.ne_of_gt (zt (g := zF) (o := .cells #[.int .i64 a1_0, .slice A1_1 l1_1.length c1_1] 48 (0, 0)) (BL zA.out)) : zO ≠ zF))
                have n21_ := Aside0.mk ((by rw [hg]; exact Nat.ne_of_lt (zt (g := zL) (o := .cells #[.slice Ao51 t330.length co51] 25 (0, 0)) (BL zC.out)) : zL ≠ zO))
                have n22_ := Aside0.mk ((by rw [hg]; exact Nat.ne_of_gt (zt (g := zL) (o := .cells #[.slice Ao51 t330.length co51] 25 (0, 0)) (BL zC.out)) : zO ≠ zL))
                have n23_ := Aside0.mk ((by rw [hg]; exact Nat.ne_of_lt (zt (g := zU) (o := .cells #[.slice Ao57 t358.length co57] 25 (0, 0)) (BL zG.out)) : zU ≠ zO))
                have n24_ := Aside0.mk ((by rw [hg]; exact Nat.ne_of_gt (zt (g := zU) (o := .cells #[.slice Ao57 t358.length co57] 25 (0, 0)) (BL zG.out)) : zO ≠ zU))
                have n25_ := Aside0.mk ((by rw [hg]; exact Nat.ne_of_lt (zt (g := zT) (o := .cells #[.int .i64 t338, .slice Ao71 t360.length co71] 55 (0, 0)) (BL zH.out)) : zT ≠ zO))
                have n26_ := Aside0.mk ((by rw [hg]; exact Nat.ne_of_gt (zt (g := zT) (o := .cells #[.int .i64 t338, .slice Ao71 t360.length co71] 55 (0, 0)) (BL zH.out)) : zO ≠ zT))
                have n27_ := Aside0.mk ((by rw [hg]; exact Nat.ne_of_lt (zt (g := zW) (o := .cells #[.slice Ao75 t343.length co75] 25 (0, 0)) (BL zK.out)) : zW ≠ zO))
                have n28_ := Aside0.mk ((by rw [hg]; exact Nat.ne_of_gt (zt (g := zW) (o := .cells #[.slice Ao75 t343.length co75] 25 (0, 0)) (BL zK.out)) : zO ≠ zW))
                clear zI
                clear zJ
                clear zM
                clear zD
                clear zab
                clear zfb
                clear zzb
                clear zB
                clear zA
                clear zC
                clear zG
                clear zH
                clear zK
                clear HB
                have zI := n0_
                have zJ := n1_
                have zM := n2_
                have zD := n3_
                have zab := n4_
                have zfb := n5_
                have zzb := n6_
                have zB := n7_
                have zA := n8_
                have zC := n9_
                have zG := n10_
                have zH := n11_
                have zK := n12_
                have HB := n13_
                have zgb := n14_
                have GW375 := n15_
                have zjb := n16_
                have zob := n17_
                have ztb := n18_
                have zlb := n19_
                have zub := n20_
                have zpb := n21_
                have zvb := n22_
                have zqb := n23_
                have zwb := n24_
                have zrb := n25_
                have zxb := n26_
                have zsb := n27_
                have zyb := n28_
                clear n0_ n1_ n2_ n3_ n4_ n5_ n6_ n7_ n8_ n9_ n10_ n11_ n12_ n13_ n14_ n15_ n16_ n17_ n18_ n19_ n20_ n21_ n22_ n23_ n24_ n25_ n26_ n27_ n28_
                clear hb hbox hg
                refine hK.out _ _ ⟨(zc zB.out 0).trans rfl, (zc zA.out 0).trans rfl, (zc zA.out 1).trans rfl⟩ (fun hHeld => ?_)
                clear hK K
                refine norm_ (a' := ?_) ?_ ?_
                rotate_left
                ·show Act.put _ (some 13) _ = _
                 simp only [pt, ps, p0, p1, zo, zp]
                 rfl
                exact norm_ (by simp only [putAll, Act.put, List.setIfInBounds_toArray, List.set_cons_zero, List.set_cons_succ]) (hCont (.slice Ao141 t365.length co141, .slice Ao142 t369.length co142, v373, zO) _ ⟨hHeld, (by exact RL (Kd.R_mono zab.out (fun _ hk => ⟨hk.2, ⟨hk.1.1.1.2, ⟨hk.1.1.2, hk.1.2⟩⟩⟩))), (by exact RL (Kd.R_mono zfb.out (fun _ hk => hk.2))), (by exact RL (Kd.R_mono zzb.out (fun _ hk => ⟨hk.2, ⟨hk.1.1.1.2, ⟨hk.1.1.2, hk.1.2⟩⟩⟩))), (by exact RL (Kd.R_mono zI.out (fun _ hk => ⟨hk.1.2, ⟨hk.2, ⟨hk.1.1.1, hk.1.1.2⟩⟩⟩))), (by exact RL (Kd.R_mono zJ.out (fun _ hk => ⟨hk.1.2, ⟨hk.2, ⟨hk.1.1.1, hk.1.1.2⟩⟩⟩))), (by exact RL (Kd.R_mono zM.out (fun _ hk => hk.2))), (by exact RL (Kd.R_mono zD.out (fun _ hk => ⟨hk.1.2, ⟨hk.2, ⟨hk.1.1.1, hk.1.1.2⟩⟩⟩))), (by exact BL zB.out), (by exact BL zA.out), (by exact BL zC.out), (by exact BL zG.out), (by exact BL zH.out), (by exact BL zK.out), (by exact BL zgb.out), GW375.out, zjb.out, zob.out, ztb.out, zlb.out, zub.out, zpb.out, zvb.out, zqb.out, zwb.out, zrb.out, zxb.out, zsb.out, zyb.out, (by repeat (first | (with_reducible first | exact HB.out | apply zh | apply zf | apply zg | refine zd ?_ zP.out | refine zd ?_ zQ.out | refine zd ?_ zS.out | refine zd ?_ zbb.out | refine zd ?_ zcb.out | refine zd ?_ zdb.out | refine zd ?_ zjb.out) | exact HB.out))⟩)
               ·skip
                refine box_step ?hg (N := 13) ?hd (cs := #[.slice none 0 0]) (t := 25) ?hr ?_; (case hd => rfl); (case hg => rfl); (case hr => first | (go_simp; done) | (go_simp; rfl))
                intro zO hg w141 hbox hb
                have n0_ := Aside0.mk (Kd.R_below (RL zI.out) hb)
                have n1_ := Aside0.mk (Kd.R_below (RL zJ.out) hb)
                have n2_ := Aside0.mk (Kd.R_below (RL zM.out) hb)
                have n3_ := Aside0.mk (Kd.R_below (RL zD.out) hb)
                have n4_ := Aside0.mk (Kd.R_below (RL zab.out) hb)
                have n5_ := Aside0.mk (Kd.R_below (RL zfb.out) hb)
                have n6_ := Aside0.mk (zi (g := zE) (o := .cells #[.slice A0_0 l0_0.length c0_0] 45 (0, 0)) (BL zB.out) hb)
                have n7_ := Aside0.mk (zi (g := zF) (o := .cells #[.int .i64 a1_0, .slice A1_1 l1_1.length c1_1] 48 (0, 0)) (BL zA.out) hb)
                have n8_ := Aside0.mk (zi (g := zL) (o := .cells #[.slice Ao51 t330.length co51] 25 (0, 0)) (BL zC.out) hb)
                have n9_ := Aside0.mk (zi (g := zU) (o := .cells #[.slice Ao57 t358.length co57] 25 (0, 0)) (BL zG.out) hb)
                have n10_ := Aside0.mk (zi (g := zT) (o := .cells #[.int .i64 t338, .slice Ao71 t360.length co71] 55 (0, 0)) (BL zH.out) hb)
                have n11_ := Aside0.mk (zi (g := zW) (o := .cells #[.slice Ao75 t343.length co75] 25 (0, 0)) (BL zK.out) hb)
                have n12_ := Aside0.mk (zn (by repeat (first | (with_reducible first | exact HB.out | apply zh | apply zf | apply zg | refine zd ?_ zP.out | refine zd ?_ zQ.out | refine zd ?_ zS.out | refine zd ?_ zbb.out | refine zd ?_ zcb.out | refine zd ?_ zdb.out) | exact HB.out)) hb)
                have n13_ := Aside0.mk (hbox)
                have n14_ := Aside0.mk ((by rw [hg]; exact (zm (by repeat (first | (with_reducible first | exact HB.out | apply zh | apply zf | apply zg | refine zd ?_ zP.out | refine zd ?_ zQ.out | refine zd ?_ zS.out | refine zd ?_ zbb.out | refine zd ?_ zcb.out | refine zd ?_ zdb.out) | exact HB.out))) : w.heap.size ≤ zO))
                have n15_ := Aside0.mk ((by rw [hg]; exact (zm (by repeat (first | (with_reducible first | exact HB.out | apply zh | apply zf | apply zg | refine zd ?_ zP.out | refine zd ?_ zQ.out | refine zd ?_ zS.out | refine zd ?_ zbb.out | refine zd ?_ zcb.out | refine zd ?_ zdb.out) | exact HB.out))) : w.heap.size ≤ zO))
                have n16_ := Aside0.mk ((by rw [hg]; exact Nat.ne_of_lt (zt (g := zE) (o := .cells #[.slice A0_0 l0_0.length c0_0] 45 (0, 0)) (BL zB.out)) : zE ≠ zO))
                have n17_ := Aside0.mk ((by rw [hg]; exact Nat.ne_of_gt (zt (g := zE) (o := .cells #[.slice A0_0 l0_0.length c0_0] 45 (0, 0)) (BL zB.out)) : zO ≠ zE))
                have n18_ := Aside0.mk ((by rw [hg]; exact Nat.ne_of_lt (zt (g := zF) (o := .cells #[.int .i64 a1_0, .slice A1_1 l1_1.length c1_1] 48 (0, 0)) (BL zA.out)) : zF ≠ zO))
                have n19_ := Aside0.mk ((by rw [hg]; exact Nat.ne_of_gt (zt (g := zF) (o := .cells #[.int .i64 a1_0, .slice A1_1 l1_1.length c1_1] 48 (0, 0)) (BL zA.out)) : zO ≠ zF))
                have n20_ := Aside0.mk ((by rw [hg]; exact Nat.ne_of_lt (zt (g := zL) (o := .cells #[.slice Ao51 t330.length co51] 25 (0, 0)) (BL zC.out)) : zL ≠ zO))
                have n21_ := Aside0.mk ((by rw [hg]; exact Nat.ne_of_gt (zt (g := zL) (o := .cells #[.slice Ao51 t330.length co51] 25 (0, 0)) (BL zC.out)) : zO ≠ zL))
                have n22_ := Aside0.mk ((by rw [hg]; exact Nat.ne_of_lt (zt (g := zU) (o := .cells #[.slice Ao57 t358.length co57] 25 (0, 0)) (BL zG.out)) : zU ≠ zO))
                have n23_ := Aside0.mk ((by rw [hg]; exact Nat.ne_of_gt (zt (g := zU) (o := .cells #[.slice Ao57 t358.length co57] 25 (0, 0)) (BL zG.out)) : zO ≠ zU))
                have n24_ := Aside0.mk ((by rw [hg]; exact Nat.ne_of_lt (zt (g := zT) (o := .cells #[.int .i64 t338, .slice Ao71 t360.length co71] 55 (0, 0)) (BL zH.out)) : zT ≠ zO))
                have n25_ := Aside0.mk ((by rw [hg]; exact Nat.ne_of_gt (zt (g := zT) (o := .cells #[.int .i64 t338, .slice Ao71 t360.length co71] 55 (0, 0)) (BL zH.out)) : zO ≠ zT))
                have n26_ := Aside0.mk ((by rw [hg]; exact Nat.ne_of_lt (zt (g := zW) (o := .cells #[.slice Ao75 t343.length co75] 25 (0, 0)) (BL zK.out)) : zW ≠ zO))
                have n27_ := Aside0.mk ((by rw [hg]; exact Nat.ne_of_gt (zt (g := zW) (o := .cells #[.slice Ao75 t343.length co75] 25 (0, 0)) (BL zK.out)) : zO ≠ zW))
                clear zI
                clear zJ
                clear zM
                clear zD
                clear zab
                clear zfb
                clear zB
                clear zA
                clear zC
                clear zG
                clear zH
                clear zK
                clear HB
                have zI := n0_
                have zJ := n1_
                have zM := n2_
                have zD := n3_
                have zab := n4_
                have zfb := n5_
                have zB := n6_
                have zA := n7_
                have zC := n8_
                have zG := n9_
                have zH := n10_
                have zK := n11_
                have HB := n12_
                have zgb := n13_
                have GW375 := n14_
                have zjb := n15_
                have zob := n16_
                have ztb := n17_
                have zlb := n18_
                have zub := n19_
                have zpb := n20_
                have zvb := n21_
                have zqb := n22_
                have zwb := n23_
                have zrb := n24_
                have zxb := n25_
                have zsb := n26_
                have zyb := n27_
                clear n0_ n1_ n2_ n3_ n4_ n5_ n6_ n7_ n8_ n9_ n10_ n11_ n12_ n13_ n14_ n15_ n16_ n17_ n18_ n19_ n20_ n21_ n22_ n23_ n24_ n25_ n26_ n27_
                clear hb hbox hg
                obtain ⟨Ao142, co142, eo142⟩ := Kd.R_slice zab.out
                (first | subst eo142 | (injection eo142 with f1_ f2_ f3_; have f4_ := f1_.symm; have f5_ := f3_.symm; clear f1_ f2_ f3_; subst f4_; subst f5_))
                obtain ⟨Ao143, co143, eo143⟩ := Kd.R_slice zfb.out
                (first | subst eo143 | (injection eo143 with f1_ f2_ f3_; have f4_ := f1_.symm; have f5_ := f3_.symm; clear f1_ f2_ f3_; subst f4_; subst f5_))
                refine hK.out _ _ ⟨(zc zB.out 0).trans rfl, (zc zA.out 0).trans rfl, (zc zA.out 1).trans rfl⟩ (fun hHeld => ?_)
                clear hK K
                refine norm_ (a' := ?_) ?_ ?_
                rotate_left
                ·show Act.put _ (some 13) _ = _
                 simp only [pt, ps, p0, p1, zo, zp]
                 rfl
                refine one_ (i := 4) (N := some 79) #[true, true, true, true, true, true, false] rfl rfl (by kernel_rfl) (by decide) (fun K hK => ?_)
                refine goes_ Tryd.func21 (by kernel_rfl) rfl #[.agg #[.slice Ao142 t365.length co142], .agg #[.int .i64 t368, .slice Ao143 t369.length co143]] (by rfl) rfl rfl (by (try simp only [List.map_toArray, List.map_cons, List.map_nil]); first | done | rfl) ?_
                with_reducible refine (impl_ApplyTxn.calls kj34 _ _ t365 t368 _ _ t369 t372 _ ?side1 ?side2 ?side3 ?side4 A126.out ?globMAX_).mono ?_; (case globMAX_ => exact Go.Proofs.YtfiojiokmkiflaaDoorH.GFMAX.below HGMAX_.out (by repeat (first | (with_reducible first | exact HB.out | exact Below.refl _ _ | apply zh | apply zf | apply zg | refine zd ?_ (Aside0.out (by assumption))) | exact HB.out)))
                (case side1 => repeat (first | exact (Kd.R_reads' zab.out).2.2 | (with_reducible refine Kd.C_alloc ?_ _) | (with_reducible refine Kd.C_drewN ?_ _) | (with_reducible refine Kd.C_drew ?_)))
                (case side2 => exact (Kd.R_reads' zab.out).2.1)
                (case side3 => repeat (first | exact (Kd.R_reads' zfb.out).2.2 | (with_reducible refine Kd.C_alloc ?_ _) | (with_reducible refine Kd.C_drewN ?_ _) | (with_reducible refine Kd.C_drew ?_)))
                (case side4 => exact (Kd.R_reads' zfb.out).2.1)
                rintro e w144 ⟨v373, rfl, zX, hb⟩
                refine ⟨_, rfl, ?_⟩
                have n0_ := Aside0.mk (Kd.R_elder' (RL zI.out) (Kd.R_base zX) hb)
                have n1_ := Aside0.mk (Kd.R_elder' (RL zJ.out) (Kd.R_base zX) hb)
                have n2_ := Aside0.mk (Kd.R_below (RL zM.out) hb)
                have n3_ := Aside0.mk (Kd.R_elder' (RL zD.out) (Kd.R_base zX) hb)
                have n4_ := Aside0.mk (Kd.R_elder' (RL zab.out) (Kd.R_base zX) hb)
                have n5_ := Aside0.mk (Kd.R_below (RL zfb.out) hb)
                have n6_ := Aside0.mk (Kd.R_lower (Kd.R_new' (Kd.R_new' (Kd.R_new' (Kd.R_new' zX (Kd.R_lt (RL zI.out))) (Kd.R_lt (RL zJ.out))) (Kd.R_lt (RL zD.out))) (Kd.R_lt (RL zab.out))) (zm (by repeat (first | (with_reducible first | exact HB.out | apply zh | apply zf | apply zg | refine zd ?_ zP.out | refine zd ?_ zQ.out | refine zd ?_ zS.out | refine zd ?_ zbb.out | refine zd ?_ zcb.out | refine zd ?_ zdb.out | refine zd ?_ zjb.out) | exact HB.out))))
                have n7_ := Aside0.mk (zi (g := zE) (o := .cells #[.slice A0_0 l0_0.length c0_0] 45 (0, 0)) (BL zB.out) hb)
                have n8_ := Aside0.mk (zi (g := zF) (o := .cells #[.int .i64 a1_0, .slice A1_1 l1_1.length c1_1] 48 (0, 0)) (BL zA.out) hb)
                have n9_ := Aside0.mk (zi (g := zL) (o := .cells #[.slice Ao51 t330.length co51] 25 (0, 0)) (BL zC.out) hb)
                have n10_ := Aside0.mk (zi (g := zU) (o := .cells #[.slice Ao57 t358.length co57] 25 (0, 0)) (BL zG.out) hb)
                have n11_ := Aside0.mk (zi (g := zT) (o := .cells #[.int .i64 t338, .slice Ao71 t360.length co71] 55 (0, 0)) (BL zH.out) hb)
                have n12_ := Aside0.mk (zi (g := zW) (o := .cells #[.slice Ao75 t343.length co75] 25 (0, 0)) (BL zK.out) hb)
                have n13_ := Aside0.mk (zi (g := zO) (o := .cells #[.slice none 0 0] 25 (0, 0)) (BL zgb.out) hb)
                have n14_ := Aside0.mk (zn (by repeat (first | (with_reducible first | exact HB.out | apply zh | apply zf | apply zg | refine zd ?_ zP.out | refine zd ?_ zQ.out | refine zd ?_ zS.out | refine zd ?_ zbb.out | refine zd ?_ zcb.out | refine zd ?_ zdb.out | refine zd ?_ zjb.out) | exact HB.out)) hb)
                clear zI
                clear zJ
                clear zM
                clear zD
                clear zab
                clear zfb
                clear zB
                clear zA
                clear zC
                clear zG
                clear zH
                clear zK
                clear zgb
                clear HB
                have zI := n0_
                have zJ := n1_
                have zM := n2_
                have zD := n3_
                have zab := n4_
                have zfb := n5_
                have zzb := n6_
                have zB := n7_
                have zA := n8_
                have zC := n9_
                have zG := n10_
                have zH := n11_
                have zK := n12_
                have zgb := n13_
                have HB := n14_
                clear n0_ n1_ n2_ n3_ n4_ n5_ n6_ n7_ n8_ n9_ n10_ n11_ n12_ n13_ n14_
                (try clear hb)
                (try clear hb2)
                (try clear hk)
                (try clear hi)
                (try clear zX)
                refine hK.out _ _ ⟨(zc zB.out 0).trans rfl, (zc zA.out 0).trans rfl, (zc zA.out 1).trans rfl⟩ (fun hHeld => ?_)
                clear hK K
                refine norm_ (a' := ?_) ?_ ?_
                rotate_left
                ·show Act.put _ (some 79) _ = _
                 simp only [pt, ps, p0, p1, zo, zp]
                 rfl
                exact norm_ (by simp only [putAll, Act.put, List.setIfInBounds_toArray, List.set_cons_zero, List.set_cons_succ]) (hCont (.slice Ao142 t365.length co142, .slice Ao143 t369.length co143, v373, zO) _ ⟨hHeld, (by exact RL (Kd.R_mono zab.out (fun _ hk => ⟨hk.2, ⟨hk.1.1.1.2, ⟨hk.1.1.2, hk.1.2⟩⟩⟩))), (by exact RL (Kd.R_mono zfb.out (fun _ hk => hk.2))), (by exact RL (Kd.R_mono zzb.out (fun _ hk => ⟨hk.2, ⟨hk.1.1.1.2, ⟨hk.1.1.2, hk.1.2⟩⟩⟩))), (by exact RL (Kd.R_mono zI.out (fun _ hk => ⟨hk.1.2, ⟨hk.2, ⟨hk.1.1.1, hk.1.1.2⟩⟩⟩))), (by exact RL (Kd.R_mono zJ.out (fun _ hk => ⟨hk.1.2, ⟨hk.2, ⟨hk.1.1.1, hk.1.1.2⟩⟩⟩))), (by exact RL (Kd.R_mono zM.out (fun _ hk => hk.2))), (by exact RL (Kd.R_mono zD.out (fun _ hk => ⟨hk.1.2, ⟨hk.2, ⟨hk.1.1.1, hk.1.1.2⟩⟩⟩))), (by exact BL zB.out), (by exact BL zA.out), (by exact BL zC.out), (by exact BL zG.out), (by exact BL zH.out), (by exact BL zK.out), (by exact BL zgb.out), GW375.out, zjb.out, zob.out, ztb.out, zlb.out, zub.out, zpb.out, zvb.out, zqb.out, zwb.out, zrb.out, zxb.out, zsb.out, zyb.out, (by repeat (first | (with_reducible first | exact HB.out | apply zh | apply zf | apply zg | refine zd ?_ zP.out | refine zd ?_ zQ.out | refine zd ?_ zS.out | refine zd ?_ zbb.out | refine zd ?_ zcb.out | refine zd ?_ zdb.out | refine zd ?_ zjb.out) | exact HB.out))⟩)
              ·skip
               refine box_step ?hg (N := 13) ?hd (cs := #[.slice none 0 0]) (t := 25) ?hr ?_; (case hd => rfl); (case hg => rfl); (case hr => first | (go_simp; done) | (go_simp; rfl))
               intro zO hg w140 hbox hb
               have n0_ := Aside0.mk (Kd.R_below (RL zI.out) hb)
               have n1_ := Aside0.mk (Kd.R_below (RL zJ.out) hb)
               have n2_ := Aside0.mk (Kd.R_below (RL zM.out) hb)
               have n3_ := Aside0.mk (Kd.R_below (RL zD.out) hb)
               have n4_ := Aside0.mk (Kd.R_below (RL zab.out) hb)
               have n5_ := Aside0.mk (zi (g := zE) (o := .cells #[.slice A0_0 l0_0.length c0_0] 45 (0, 0)) (BL zB.out) hb)
               have n6_ := Aside0.mk (zi (g := zF) (o := .cells #[.int .i64 a1_0, .slice A1_1 l1_1.length c1_1] 48 (0, 0)) (BL zA.out) hb)
               have n7_ := Aside0.mk (zi (g := zL) (o := .cells #[.slice Ao51 t330.length co51] 25 (0, 0)) (BL zC.out) hb)
               have n8_ := Aside0.mk (zi (g := zU) (o := .cells #[.slice Ao57 t358.length co57] 25 (0, 0)) (BL zG.out) hb)
               have n9_ := Aside0.mk (zi (g := zT) (o := .cells #[.int .i64 t338, .slice Ao71 t360.length co71] 55 (0, 0)) (BL zH.out) hb)
               have n10_ := Aside0.mk (zi (g := zW) (o := .cells #[.slice Ao75 t343.length co75] 25 (0, 0)) (BL zK.out) hb)
               have n11_ := Aside0.mk (zn (by repeat (first | (with_reducible first | exact HB.out | apply zh | apply zf | apply zg | refine zd ?_ zP.out | refine zd ?_ zQ.out | refine zd ?_ zS.out | refine zd ?_ zbb.out | refine zd ?_ zcb.out | refine zd ?_ zdb.out) | exact HB.out)) hb)
               have n12_ := Aside0.mk (hbox)
               have n13_ := Aside0.mk ((by rw [hg]; exact (zm (by repeat (first | (with_reducible first | exact HB.out | apply zh | apply zf | apply zg | refine zd ?_ zP.out | refine zd ?_ zQ.out | refine zd ?_ zS.out | refine zd ?_ zbb.out | refine zd ?_ zcb.out | refine zd ?_ zdb.out) | exact HB.out))) : w.heap.size ≤ zO))
               have n14_ := Aside0.mk ((by rw [hg]; exact (zm (by repeat (first | (with_reducible first | exact HB.out | apply zh | apply zf | apply zg | refine zd ?_ zP.out | refine zd ?_ zQ.out | refine zd ?_ zS.out | refine zd ?_ zbb.out | refine zd ?_ zcb.out | refine zd ?_ zdb.out) | exact HB.out))) : w.heap.size ≤ zO))
               have n15_ := Aside0.mk ((by rw [hg]; exact Nat.ne_of_lt (zt (g := zE) (o := .cells #[.slice A0_0 l0_0.length c0_0] 45 (0, 0)) (BL zB.out)) : zE ≠ zO))
               have n16_ := Aside0.mk ((by rw [hg]; exact Nat.ne_of_gt (zt (g := zE) (o := .cells #[.slice A0_0 l0_0.length c0_0] 45 (0, 0)) (BL zB.out)) : zO ≠ zE))
               have n17_ := Aside0.mk ((by rw [hg]; exact Nat.ne_of_lt (zt (g := zF) (o := .cells #[.int .i64 a1_0, .slice A1_1 l1_1.length c1_1] 48 (0, 0)) (BL zA.out)) : zF ≠ zO))
               have n18_ := Aside0.mk ((by rw [hg]; exact Nat.ne_of_gt (zt (g := zF) (o := .cells #[.int .i64 a1_0, .slice A1_1 l1_1.length c1_1] 48 (0, 0)) (BL zA.out)) : zO ≠ zF))
               have n19_ := Aside0.mk ((by rw [hg]; exact Nat.ne_of_lt (zt (g := zL) (o := .cells #[.slice Ao51 t330.length co51] 25 (0, 0)) (BL zC.out)) : zL ≠ zO))
               have n20_ := Aside0.mk ((by rw [hg]; exact Nat.ne_of_gt (zt (g := zL) (o := .cells #[.slice Ao51 t330.length co51] 25 (0, 0)) (BL zC.out)) : zO ≠ zL))
               have n21_ := Aside0.mk ((by rw [hg]; exact Nat.ne_of_lt (zt (g := zU) (o := .cells #[.slice Ao57 t358.length co57] 25 (0, 0)) (BL zG.out)) : zU ≠ zO))
               have n22_ := Aside0.mk ((by rw [hg]; exact Nat.ne_of_gt (zt (g := zU) (o := .cells #[.slice Ao57 t358.length co57] 25 (0, 0)) (BL zG.out)) : zO ≠ zU))
               have n23_ := Aside0.mk ((by rw [hg]; exact Nat.ne_of_lt (zt (g := zT) (o := .cells #[.int .i64 t338, .slice Ao71 t360.length co71] 55 (0, 0)) (BL zH.out)) : zT ≠ zO))
               have n24_ := Aside0.mk ((by rw [hg]; exact Nat.ne_of_gt (zt (g := zT) (o := .cells #[.int .i64 t338, .slice Ao71 t360.length co71] 55 (0, 0)) (BL zH.out)) : zO ≠ zT))
               have n25_ := Aside0.mk ((by rw [hg]; exact Nat.ne_of_lt (zt (g := zW) (o := .cells #[.slice Ao75 t343.length co75] 25 (0, 0)) (BL zK.out)) : zW ≠ zO))
               have n26_ := Aside0.mk ((by rw [hg]; exact Nat.ne_of_gt (zt (g := zW) (o := .cells #[.slice Ao75 t343.length co75] 25 (0, 0)) (BL zK.out)) : zO ≠ zW))
               clear zI
               clear zJ
               clear zM
               clear zD
               clear zab
               clear zB
               clear zA
               clear zC
               clear zG
               clear zH
               clear zK
               clear HB
               have zI := n0_
               have zJ := n1_
               have zM := n2_
               have zD := n3_
               have zab := n4_
               have zB := n5_
               have zA := n6_
               have zC := n7_
               have zG := n8_
               have zH := n9_
               have zK := n10_
               have HB := n11_
               have zgb := n12_
               have GW375 := n13_
               have zjb := n14_
               have zob := n15_
               have ztb := n16_
               have zlb := n17_
               have zub := n18_
               have zpb := n19_
               have zvb := n20_
               have zqb := n21_
               have zwb := n22_
               have zrb := n23_
               have zxb := n24_
               have zsb := n25_
               have zyb := n26_
               clear n0_ n1_ n2_ n3_ n4_ n5_ n6_ n7_ n8_ n9_ n10_ n11_ n12_ n13_ n14_ n15_ n16_ n17_ n18_ n19_ n20_ n21_ n22_ n23_ n24_ n25_ n26_
               clear hb hbox hg
               refine hK.out _ _ ⟨(zc zB.out 0).trans rfl, (zc zA.out 0).trans rfl, (zc zA.out 1).trans rfl⟩ (fun hHeld => ?_)
               clear hK K
               refine norm_ (a' := ?_) ?_ ?_
               rotate_left
               ·show Act.put _ (some 13) _ = _
                simp only [pt, ps, p0, p1, zo, zp]
                rfl
               refine one_ (i := 3) (N := some 78) #[true, true, true, true, false, true, false] rfl rfl (by kernel_rfl) (by decide) (fun K hK => ?_)
               refine goes_ Tryd.func20 (by kernel_rfl) rfl #[.agg #[.int .i64 a1_0, .slice A1_1 l1_1.length c1_1]] (by rfl) rfl rfl (by (try simp only [List.map_toArray, List.map_cons, List.map_nil]); first | done | rfl) ?_
               with_reducible refine (laws_toTxn.calls kj34 a1_0 _ _ l1_1 t368 t369 _ ?side1 ?side2 A125.out).mono ?_
               (case side1 => repeat (first | exact (Kd.C_below HR1_1.out HB.out) | (with_reducible refine Kd.C_alloc ?_ _) | (with_reducible refine Kd.C_drewN ?_ _) | (with_reducible refine Kd.C_drew ?_)))
               (case side2 => exact HC1_1.out)
               rintro e w141 ⟨v370, rfl, zX, hb⟩
               refine ⟨_, rfl, ?_⟩
               have n0_ := Aside0.mk (Kd.R_below (RL zI.out) hb)
               have n1_ := Aside0.mk (Kd.R_below (RL zJ.out) hb)
               have n2_ := Aside0.mk (Kd.R_elder' (RL zM.out) (Kd.R_base zX) hb)
               have n3_ := Aside0.mk (Kd.R_below (RL zD.out) hb)
               have n4_ := Aside0.mk (Kd.R_below (RL zab.out) hb)
               have n5_ := Aside0.mk (Kd.R_lower (Kd.R_new' zX (Kd.R_lt (RL zM.out))) (zm (by repeat (first | (with_reducible first | exact HB.out | apply zh | apply zf | apply zg | refine zd ?_ zP.out | refine zd ?_ zQ.out | refine zd ?_ zS.out | refine zd ?_ zbb.out | refine zd ?_ zcb.out | refine zd ?_ zdb.out | refine zd ?_ zjb.out) | exact HB.out))))
               have n6_ := Aside0.mk (zi (g := zE) (o := .cells #[.slice A0_0 l0_0.length c0_0] 45 (0, 0)) (BL zB.out) hb)
               have n7_ := Aside0.mk (zi (g := zF) (o := .cells #[.int .i64 a1_0, .slice A1_1 l1_1.length c1_1] 48 (0, 0)) (BL zA.out) hb)
               have n8_ := Aside0.mk (zi (g := zL) (o := .cells #[.slice Ao51 t330.length co51] 25 (0, 0)) (BL zC.out) hb)
               have n9_ := Aside0.mk (zi (g := zU) (o := .cells #[.slice Ao57 t358.length co57] 25 (0, 0)) (BL zG.out) hb)
               have n10_ := Aside0.mk (zi (g := zT) (o := .cells #[.int .i64 t338, .slice Ao71 t360.length co71] 55 (0, 0)) (BL zH.out) hb)
               have n11_ := Aside0.mk (zi (g := zW) (o := .cells #[.slice Ao75 t343.length co75] 25 (0, 0)) (BL zK.out) hb)
               have n12_ := Aside0.mk (zi (g := zO) (o := .cells #[.slice none 0 0] 25 (0, 0)) (BL zgb.out) hb)
               have n13_ := Aside0.mk (zn (by repeat (first | (with_reducible first | exact HB.out | apply zh | apply zf | apply zg | refine zd ?_ zP.out | refine zd ?_ zQ.out | refine zd ?_ zS.out | refine zd ?_ zbb.out | refine zd ?_ zcb.out | refine zd ?_ zdb.out | refine zd ?_ zjb.out) | exact HB.out)) hb)
               clear zI
               clear zJ
               clear zM
               clear zD
               clear zab
               clear zB
               clear zA
               clear zC
               clear zG
               clear zH
               clear zK
               clear zgb
               clear HB
               have zI := n0_
               have zJ := n1_
               have zM := n2_
               have zD := n3_
               have zab := n4_
               have zfb := n5_
               have zB := n6_
               have zA := n7_
               have zC := n8_
               have zG := n9_
               have zH := n10_
               have zK := n11_
               have zgb := n12_
               have HB := n13_
               clear n0_ n1_ n2_ n3_ n4_ n5_ n6_ n7_ n8_ n9_ n10_ n11_ n12_ n13_
               (try clear hb)
               (try clear hb2)
               (try clear hk)
               (try clear hi)
               (try clear zX)
               obtain ⟨Ao142, co142, eo142⟩ := Kd.R_slice zab.out
               (first | subst eo142 | (injection eo142 with f1_ f2_ f3_; have f4_ := f1_.symm; have f5_ := f3_.symm; clear f1_ f2_ f3_; subst f4_; subst f5_))
               obtain ⟨Ao143, co143, eo143⟩ := Kd.R_slice zfb.out
               (first | subst eo143 | (injection eo143 with f1_ f2_ f3_; have f4_ := f1_.symm; have f5_ := f3_.symm; clear f1_ f2_ f3_; subst f4_; subst f5_))
               refine hK.out _ _ ⟨(zc zB.out 0).trans rfl, (zc zA.out 0).trans rfl, (zc zA.out 1).trans rfl⟩ (fun hHeld => ?_)
               clear hK K
               refine norm_ (a' := ?_) ?_ ?_
               rotate_left
               ·show Act.put _ (some 78) _ = _
                simp only [pt, ps, p0, p1, zo, zp]
                rfl
               refine one_ (i := 4) (N := some 79) #[true, true, true, true, true, true, false] rfl rfl (by kernel_rfl) (by decide) (fun K hK => ?_)
               refine goes_ Tryd.func21 (by kernel_rfl) rfl #[.agg #[.slice Ao142 t365.length co142], .agg #[.int .i64 t368, .slice Ao143 t369.length co143]] (by rfl) rfl rfl (by (try simp only [List.map_toArray, List.map_cons, List.map_nil]); first | done | rfl) ?_
               with_reducible refine (impl_ApplyTxn.calls kj34 _ _ t365 t368 _ _ t369 t372 _ ?side1 ?side2 ?side3 ?side4 A126.out ?globMAX_).mono ?_; (case globMAX_ => exact Go.Proofs.YtfiojiokmkiflaaDoorH.GFMAX.below HGMAX_.out (by repeat (first | (with_reducible first | exact HB.out | exact Below.refl _ _ | apply zh | apply zf | apply zg | refine zd ?_ (Aside0.out (by assumption))) | exact HB.out)))
               (case side1 => repeat (first | exact (Kd.R_reads' zab.out).2.2 | (with_reducible refine Kd.C_alloc ?_ _) | (with_reducible refine Kd.C_drewN ?_ _) | (with_reducible refine Kd.C_drew ?_)))
               (case side2 => exact (Kd.R_reads' zab.out).2.1)
               (case side3 => repeat (first | exact (Kd.R_reads' zfb.out).2.2 | (with_reducible refine Kd.C_alloc ?_ _) | (with_reducible refine Kd.C_drewN ?_ _) | (with_reducible refine Kd.C_drew ?_)))
               (case side4 => exact (Kd.R_reads' zfb.out).2.1)
               rintro e w144 ⟨v373, rfl, zX, hb⟩
               refine ⟨_, rfl, ?_⟩
               have n0_ := Aside0.mk (Kd.R_elder' (RL zI.out) (Kd.R_base zX) hb)
               have n1_ := Aside0.mk (Kd.R_elder' (RL zJ.out) (Kd.R_base zX) hb)
               have n2_ := Aside0.mk (Kd.R_below (RL zM.out) hb)
               have n3_ := Aside0.mk (Kd.R_elder' (RL zD.out) (Kd.R_base zX) hb)
               have n4_ := Aside0.mk (Kd.R_elder' (RL zab.out) (Kd.R_base zX) hb)
               have n5_ := Aside0.mk (Kd.R_below (RL zfb.out) hb)
               have n6_ := Aside0.mk (Kd.R_lower (Kd.R_new' (Kd.R_new' (Kd.R_new' (Kd.R_new' zX (Kd.R_lt (RL zI.out))) (Kd.R_lt (RL zJ.out))) (Kd.R_lt (RL zD.out))) (Kd.R_lt (RL zab.out))) (zm (by repeat (first | (with_reducible first | exact HB.out | apply zh | apply zf | apply zg | refine zd ?_ zP.out | refine zd ?_ zQ.out | refine zd ?_ zS.out | refine zd ?_ zbb.out | refine zd ?_ zcb.out | refine zd ?_ zdb.out | refine zd ?_ zjb.out) | exact HB.out))))
               have n7_ := Aside0.mk (zi (g := zE) (o := .cells #[.slice A0_0 l0_0.length c0_0] 45 (0, 0)) (BL zB.out) hb)
               have n8_ := Aside0.mk (zi (g := zF) (o := .cells #[.int .i64 a1_0, .slice A1_1 l1_1.length c1_1] 48 (0, 0)) (BL zA.out) hb)
               have n9_ := Aside0.mk (zi (g := zL) (o := .cells #[.slice Ao51 t330.length co51] 25 (0, 0)) (BL zC.out) hb)
               have n10_ := Aside0.mk (zi (g := zU) (o := .cells #[.slice Ao57 t358.length co57] 25 (0, 0)) (BL zG.out) hb)
               have n11_ := Aside0.mk (zi (g := zT) (o := .cells #[.int .i64 t338, .slice Ao71 t360.length co71] 55 (0, 0)) (BL zH.out) hb)
               have n12_ := Aside0.mk (zi (g := zW) (o := .cells #[.slice Ao75 t343.length co75] 25 (0, 0)) (BL zK.out) hb)
               have n13_ := Aside0.mk (zi (g := zO) (o := .cells #[.slice none 0 0] 25 (0, 0)) (BL zgb.out) hb)
               have n14_ := Aside0.mk (zn (by repeat (first | (with_reducible first | exact HB.out | apply zh | apply zf | apply zg | refine zd ?_ zP.out | refine zd ?_ zQ.out | refine zd ?_ zS.out | refine zd ?_ zbb.out | refine zd ?_ zcb.out | refine zd ?_ zdb.out | refine zd ?_ zjb.out) | exact HB.out)) hb)
               clear zI
               clear zJ
               clear zM
               clear zD
               clear zab
               clear zfb
               clear zB
               clear zA
               clear zC
               clear zG
               clear zH
               clear zK
               clear zgb
               clear HB
               have zI := n0_
               have zJ := n1_
               have zM := n2_
               have zD := n3_
               have zab := n4_
               have zfb := n5_
               have zzb := n6_
               have zB := n7_
               have zA := n8_
               have zC := n9_
               have zG := n10_
               have zH := n11_
               have zK := n12_
               have zgb := n13_
               have HB := n14_
               clear n0_ n1_ n2_ n3_ n4_ n5_ n6_ n7_ n8_ n9_ n10_ n11_ n12_ n13_ n14_
               (try clear hb)
               (try clear hb2)
               (try clear hk)
               (try clear hi)
               (try clear zX)
               refine hK.out _ _ ⟨(zc zB.out 0).trans rfl, (zc zA.out 0).trans rfl, (zc zA.out 1).trans rfl⟩ (fun hHeld => ?_)
               clear hK K
               refine norm_ (a' := ?_) ?_ ?_
               rotate_left
               ·show Act.put _ (some 79) _ = _
                simp only [pt, ps, p0, p1, zo, zp]
                rfl
               exact norm_ (by simp only [putAll, Act.put, List.setIfInBounds_toArray, List.set_cons_zero, List.set_cons_succ]) (hCont (.slice Ao142 t365.length co142, .slice Ao143 t369.length co143, v373, zO) _ ⟨hHeld, (by exact RL (Kd.R_mono zab.out (fun _ hk => ⟨hk.2, ⟨hk.1.1.1.2, ⟨hk.1.1.2, hk.1.2⟩⟩⟩))), (by exact RL (Kd.R_mono zfb.out (fun _ hk => hk.2))), (by exact RL (Kd.R_mono zzb.out (fun _ hk => ⟨hk.2, ⟨hk.1.1.1.2, ⟨hk.1.1.2, hk.1.2⟩⟩⟩))), (by exact RL (Kd.R_mono zI.out (fun _ hk => ⟨hk.1.2, ⟨hk.2, ⟨hk.1.1.1, hk.1.1.2⟩⟩⟩))), (by exact RL (Kd.R_mono zJ.out (fun _ hk => ⟨hk.1.2, ⟨hk.2, ⟨hk.1.1.1, hk.1.1.2⟩⟩⟩))), (by exact RL (Kd.R_mono zM.out (fun _ hk => hk.2))), (by exact RL (Kd.R_mono zD.out (fun _ hk => ⟨hk.1.2, ⟨hk.2, ⟨hk.1.1.1, hk.1.1.2⟩⟩⟩))), (by exact BL zB.out), (by exact BL zA.out), (by exact BL zC.out), (by exact BL zG.out), (by exact BL zH.out), (by exact BL zK.out), (by exact BL zgb.out), GW375.out, zjb.out, zob.out, ztb.out, zlb.out, zub.out, zpb.out, zvb.out, zqb.out, zwb.out, zrb.out, zxb.out, zsb.out, zyb.out, (by repeat (first | (with_reducible first | exact HB.out | apply zh | apply zf | apply zg | refine zd ?_ zP.out | refine zd ?_ zQ.out | refine zd ?_ zS.out | refine zd ?_ zbb.out | refine zd ?_ zcb.out | refine zd ?_ zdb.out | refine zd ?_ zjb.out) | exact HB.out))⟩)
             ·skip
              refine box_step ?hg (N := 13) ?hd (cs := #[.slice none 0 0]) (t := 25) ?hr ?_; (case hd => rfl); (case hg => rfl); (case hr => first | (go_simp; done) | (go_simp; rfl))
              intro zO hg w139 hbox hb
              have n0_ := Aside0.mk (Kd.R_below (RL zI.out) hb)
              have n1_ := Aside0.mk (Kd.R_below (RL zJ.out) hb)
              have n2_ := Aside0.mk (Kd.R_below (RL zM.out) hb)
              have n3_ := Aside0.mk (Kd.R_below (RL zD.out) hb)
              have n4_ := Aside0.mk (zi (g := zE) (o := .cells #[.slice A0_0 l0_0.length c0_0] 45 (0, 0)) (BL zB.out) hb)
              have n5_ := Aside0.mk (zi (g := zF) (o := .cells #[.int .i64 a1_0, .slice A1_1 l1_1.length c1_1] 48 (0, 0)) (BL zA.out) hb)
              have n6_ := Aside0.mk (zi (g := zL) (o := .cells #[.slice Ao51 t330.length co51] 25 (0, 0)) (BL zC.out) hb)
              have n7_ := Aside0.mk (zi (g := zU) (o := .cells #[.slice Ao57 t358.length co57] 25 (0, 0)) (BL zG.out) hb)
              have n8_ := Aside0.mk (zi (g := zT) (o := .cells #[.int .i64 t338, .slice Ao71 t360.length co71] 55 (0, 0)) (BL zH.out) hb)
              have n9_ := Aside0.mk (zi (g := zW) (o := .cells #[.slice Ao75 t343.length co75] 25 (0, 0)) (BL zK.out) hb)
              have n10_ := Aside0.mk (zn (by repeat (first | (with_reducible first | exact HB.out | apply zh | apply zf | apply zg | refine zd ?_ zP.out | refine zd ?_ zQ.out | refine zd ?_ zS.out | refine zd ?_ zbb.out | refine zd ?_ zcb.out | refine zd ?_ zdb.out) | exact HB.out)) hb)
              have n11_ := Aside0.mk (hbox)
              have n12_ := Aside0.mk ((by rw [hg]; exact (zm (by repeat (first | (with_reducible first | exact HB.out | apply zh | apply zf | apply zg | refine zd ?_ zP.out | refine zd ?_ zQ.out | refine zd ?_ zS.out | refine zd ?_ zbb.out | refine zd ?_ zcb.out | refine zd ?_ zdb.out) | exact HB.out))) : w.heap.size ≤ zO))
              have n13_ := Aside0.mk ((by rw [hg]; exact (zm (by repeat (first | (with_reducible first | exact HB.out | apply zh | apply zf | apply zg | refine zd ?_ zP.out | refine zd ?_ zQ.out | refine zd ?_ zS.out | refine zd ?_ zbb.out | refine zd ?_ zcb.out | refine zd ?_ zdb.out) | exact HB.out))) : w.heap.size ≤ zO))
              have n14_ := Aside0.mk ((by rw [hg]; exact Nat.ne_of_lt (zt (g := zE) (o := .cells #[.slice A0_0 l0_0.length c0_0] 45 (0, 0)) (BL zB.out)) : zE ≠ zO))
              have n15_ := Aside0.mk ((by rw [hg]; exact Nat.ne_of_gt (zt (g := zE) (o := .cells #[.slice A0_0 l0_0.length c0_0] 45 (0, 0)) (BL zB.out)) : zO ≠ zE))
              have n16_ := Aside0.mk ((by rw [hg]; exact Nat.ne_of_lt (zt (g := zF) (o := .cells #[.int .i64 a1_0, .slice A1_1 l1_1.length c1_1] 48 (0, 0)) (BL zA.out)) : zF ≠ zO))
              have n17_ := Aside0.mk ((by rw [hg]; exact Nat.ne_of_gt (zt (g := zF) (o := .cells #[.int .i64 a1_0, .slice A1_1 l1_1.length c1_1] 48 (0, 0)) (BL zA.out)) : zO ≠ zF))
              have n18_ := Aside0.mk ((by rw [hg]; exact Nat.ne_of_lt (zt (g := zL) (o := .cells #[.slice Ao51 t330.length co51] 25 (0, 0)) (BL zC.out)) : zL ≠ zO))
              have n19_ := Aside0.mk ((by rw [hg]; exact Nat.ne_of_gt (zt (g := zL) (o := .cells #[.slice Ao51 t330.length co51] 25 (0, 0)) (BL zC.out)) : zO ≠ zL))
              have n20_ := Aside0.mk ((by rw [hg]; exact Nat.ne_of_lt (zt (g := zU) (o := .cells #[.slice Ao57 t358.length co57] 25 (0, 0)) (BL zG.out)) : zU ≠ zO))
              have n21_ := Aside0.mk ((by rw [hg]; exact Nat.ne_of_gt (zt (g := zU) (o := .cells #[.slice Ao57 t358.length co57] 25 (0, 0)) (BL zG.out)) : zO ≠ zU))
              have n22_ := Aside0.mk ((by rw [hg]; exact Nat.ne_of_lt (zt (g := zT) (o := .cells #[.int .i64 t338, .slice Ao71 t360.length co71] 55 (0, 0)) (BL zH.out)) : zT ≠ zO))
              have n23_ := Aside0.mk ((by rw [hg]; exact Nat.ne_of_gt (zt (g := zT) (o := .cells #[.int .i64 t338, .slice Ao71 t360.length co71] 55 (0, 0)) (BL zH.out)) : zO ≠ zT))
              have n24_ := Aside0.mk ((by rw [hg]; exact Nat.ne_of_lt (zt (g := zW) (o := .cells #[.slice Ao75 t343.length co75] 25 (0, 0)) (BL zK.out)) : zW ≠ zO))
              have n25_ := Aside0.mk ((by rw [hg]; exact Nat.ne_of_gt (zt (g := zW) (o := .cells #[.slice Ao75 t343.length co75] 25 (0, 0)) (BL zK.out)) : zO ≠ zW))
              clear zI
              clear zJ
              clear zM
              clear zD
              clear zB
              clear zA
              clear zC
              clear zG
              clear zH
              clear zK
              clear HB
              have zI := n0_
              have zJ := n1_
              have zM := n2_
              have zD := n3_
              have zB := n4_
              have zA := n5_
              have zC := n6_
              have zG := n7_
              have zH := n8_
              have zK := n9_
              have HB := n10_
              have zgb := n11_
              have GW375 := n12_
              have zjb := n13_
              have zob := n14_
              have ztb := n15_
              have zlb := n16_
              have zub := n17_
              have zpb := n18_
              have zvb := n19_
              have zqb := n20_
              have zwb := n21_
              have zrb := n22_
              have zxb := n23_
              have zsb := n24_
              have zyb := n25_
              clear n0_ n1_ n2_ n3_ n4_ n5_ n6_ n7_ n8_ n9_ n10_ n11_ n12_ n13_ n14_ n15_ n16_ n17_ n18_ n19_ n20_ n21_ n22_ n23_ n24_ n25_
              clear hb hbox hg
              refine hK.out _ _ ⟨(zc zB.out 0).trans rfl, (zc zA.out 0).trans rfl, (zc zA.out 1).trans rfl⟩ (fun hHeld => ?_)
              clear hK K
              refine norm_ (a' := ?_) ?_ ?_
              rotate_left
              ·show Act.put _ (some 13) _ = _
               simp only [pt, ps, p0, p1, zo, zp]
               rfl
              refine one_ (i := 1) (N := some 76) #[true, true, true, false, false, true, false] rfl rfl (by kernel_rfl) (by decide) (fun K hK => ?_)
              refine goes_ Tryd.func19 (by kernel_rfl) rfl #[.agg #[.slice A0_0 l0_0.length c0_0]] (by rfl) rfl rfl (by (try simp only [List.map_toArray, List.map_cons, List.map_nil]); first | done | rfl) ?_
              with_reducible refine (laws_toTree.calls kj34 _ _ l0_0 t365 _ ?side1 ?side2 A124.out).mono ?_
              (case side1 => repeat (first | exact (Kd.C_below HR0_0.out HB.out) | (with_reducible refine Kd.C_alloc ?_ _) | (with_reducible refine Kd.C_drewN ?_ _) | (with_reducible refine Kd.C_drew ?_)))
              (case side2 => exact HC0_0.out)
              rintro e w140 ⟨v366, rfl, zX, hb⟩
              refine ⟨_, rfl, ?_⟩
              have n0_ := Aside0.mk (Kd.R_elder' (RL zI.out) (Kd.R_base zX) hb)
              have n1_ := Aside0.mk (Kd.R_elder' (RL zJ.out) (Kd.R_base zX) hb)
              have n2_ := Aside0.mk (Kd.R_below (RL zM.out) hb)
              have n3_ := Aside0.mk (Kd.R_elder' (RL zD.out) (Kd.R_base zX) hb)
              have n4_ := Aside0.mk (Kd.R_lower (Kd.R_new' (Kd.R_new' (Kd.R_new' zX (Kd.R_lt (RL zI.out))) (Kd.R_lt (RL zJ.out))) (Kd.R_lt (RL zD.out))) (zm (by repeat (first | (with_reducible first | exact HB.out | apply zh | apply zf | apply zg | refine zd ?_ zP.out | refine zd ?_ zQ.out | refine zd ?_ zS.out | refine zd ?_ zbb.out | refine zd ?_ zcb.out | refine zd ?_ zdb.out | refine zd ?_ zjb.out) | exact HB.out))))
              have n5_ := Aside0.mk (zi (g := zE) (o := .cells #[.slice A0_0 l0_0.length c0_0] 45 (0, 0)) (BL zB.out) hb)
              have n6_ := Aside0.mk (zi (g := zF) (o := .cells #[.int .i64 a1_0, .slice A1_1 l1_1.length c1_1] 48 (0, 0)) (BL zA.out) hb)
              have n7_ := Aside0.mk (zi (g := zL) (o := .cells #[.slice Ao51 t330.length co51] 25 (0, 0)) (BL zC.out) hb)
              have n8_ := Aside0.mk (zi (g := zU) (o := .cells #[.slice Ao57 t358.length co57] 25 (0, 0)) (BL zG.out) hb)
              have n9_ := Aside0.mk (zi (g := zT) (o := .cells #[.int .i64 t338, .slice Ao71 t360.length co71] 55 (0, 0)) (BL zH.out) hb)
              have n10_ := Aside0.mk (zi (g := zW) (o := .cells #[.slice Ao75 t343.length co75] 25 (0, 0)) (BL zK.out) hb)
              have n11_ := Aside0.mk (zi (g := zO) (o := .cells #[.slice none 0 0] 25 (0, 0)) (BL zgb.out) hb)
              have n12_ := Aside0.mk (zn (by repeat (first | (with_reducible first | exact HB.out | apply zh | apply zf | apply zg | refine zd ?_ zP.out | refine zd ?_ zQ.out | refine zd ?_ zS.out | refine zd ?_ zbb.out | refine zd ?_ zcb.out | refine zd ?_ zdb.out | refine zd ?_ zjb.out) | exact HB.out)) hb)
              clear zI
              clear zJ
              clear zM
              clear zD
              clear zB
              clear zA
              clear zC
              clear zG
              clear zH
              clear zK
              clear zgb
              clear HB
              have zI := n0_
              have zJ := n1_
              have zM := n2_
              have zD := n3_
              have zab := n4_
              have zB := n5_
              have zA := n6_
              have zC := n7_
              have zG := n8_
              have zH := n9_
              have zK := n10_
              have zgb := n11_
              have HB := n12_
              clear n0_ n1_ n2_ n3_ n4_ n5_ n6_ n7_ n8_ n9_ n10_ n11_ n12_
              (try clear hb)
              (try clear hb2)
              (try clear hk)
              (try clear hi)
              (try clear zX)
              refine hK.out _ _ ⟨(zc zB.out 0).trans rfl, (zc zA.out 0).trans rfl, (zc zA.out 1).trans rfl⟩ (fun hHeld => ?_)
              clear hK K
              refine norm_ (a' := ?_) ?_ ?_
              rotate_left
              ·show Act.put _ (some 76) _ = _
               simp only [pt, ps, p0, p1, zo, zp]
               rfl
              refine one_ (i := 3) (N := some 78) #[true, true, true, true, false, true, false] rfl rfl (by kernel_rfl) (by decide) (fun K hK => ?_)
              refine goes_ Tryd.func20 (by kernel_rfl) rfl #[.agg #[.int .i64 a1_0, .slice A1_1 l1_1.length c1_1]] (by rfl) rfl rfl (by (try simp only [List.map_toArray, List.map_cons, List.map_nil]); first | done | rfl) ?_
              with_reducible refine (laws_toTxn.calls kj34 a1_0 _ _ l1_1 t368 t369 _ ?side1 ?side2 A125.out).mono ?_
              (case side1 => repeat (first | exact (Kd.C_below HR1_1.out HB.out) | (with_reducible refine Kd.C_alloc ?_ _) | (with_reducible refine Kd.C_drewN ?_ _) | (with_reducible refine Kd.C_drew ?_)))
              (case side2 => exact HC1_1.out)
              rintro e w141 ⟨v370, rfl, zX, hb⟩
              refine ⟨_, rfl, ?_⟩
              have n0_ := Aside0.mk (Kd.R_below (RL zI.out) hb)
              have n1_ := Aside0.mk (Kd.R_below (RL zJ.out) hb)
              have n2_ := Aside0.mk (Kd.R_elder' (RL zM.out) (Kd.R_base zX) hb)
              have n3_ := Aside0.mk (Kd.R_below (RL zD.out) hb)
              have n4_ := Aside0.mk (Kd.R_below (RL zab.out) hb)
              have n5_ := Aside0.mk (Kd.R_lower (Kd.R_new' zX (Kd.R_lt (RL zM.out))) (zm (by repeat (first | (with_reducible first | exact HB.out | apply zh | apply zf | apply zg | refine zd ?_ zP.out | refine zd ?_ zQ.out | refine zd ?_ zS.out | refine zd ?_ zbb.out | refine zd ?_ zcb.out | refine zd ?_ zdb.out | refine zd ?_ zjb.out) | exact HB.out))))
              have n6_ := Aside0.mk (zi (g := zE) (o := .cells #[.slice A0_0 l0_0.length c0_0] 45 (0, 0)) (BL zB.out) hb)
              have n7_ := Aside0.mk (zi (g := zF) (o := .cells #[.int .i64 a1_0, .slice A1_1 l1_1.length c1_1] 48 (0, 0)) (BL zA.out) hb)
              have n8_ := Aside0.mk (zi (g := zL) (o := .cells #[.slice Ao51 t330.length co51] 25 (0, 0)) (BL zC.out) hb)
              have n9_ := Aside0.mk (zi (g := zU) (o := .cells #[.slice Ao57 t358.length co57] 25 (0, 0)) (BL zG.out) hb)
              have n10_ := Aside0.mk (zi (g := zT) (o := .cells #[.int .i64 t338, .slice Ao71 t360.length co71] 55 (0, 0)) (BL zH.out) hb)
              have n11_ := Aside0.mk (zi (g := zW) (o := .cells #[.slice Ao75 t343.length co75] 25 (0, 0)) (BL zK.out) hb)
              have n12_ := Aside0.mk (zi (g := zO) (o := .cells #[.slice none 0 0] 25 (0, 0)) (BL zgb.out) hb)
              have n13_ := Aside0.mk (zn (by repeat (first | (with_reducible first | exact HB.out | apply zh | apply zf | apply zg | refine zd ?_ zP.out | refine zd ?_ zQ.out | refine zd ?_ zS.out | refine zd ?_ zbb.out | refine zd ?_ zcb.out | refine zd ?_ zdb.out | refine zd ?_ zjb.out) | exact HB.out)) hb)
              clear zI
              clear zJ
              clear zM
              clear zD
              clear zab
              clear zB
              clear zA
              clear zC
              clear zG
              clear zH
              clear zK
              clear zgb
              clear HB
              have zI := n0_
              have zJ := n1_
              have zM := n2_
              have zD := n3_
              have zab := n4_
              have zfb := n5_
              have zB := n6_
              have zA := n7_
              have zC := n8_
              have zG := n9_
              have zH := n10_
              have zK := n11_
              have zgb := n12_
              have HB := n13_
              clear n0_ n1_ n2_ n3_ n4_ n5_ n6_ n7_ n8_ n9_ n10_ n11_ n12_ n13_
              (try clear hb)
              (try clear hb2)
              (try clear hk)
              (try clear hi)
              (try clear zX)
              obtain ⟨Ao142, co142, eo142⟩ := Kd.R_slice zab.out
              (first | subst eo142 | (injection eo142 with f1_ f2_ f3_; have f4_ := f1_.symm; have f5_ := f3_.symm; clear f1_ f2_ f3_; subst f4_; subst f5_))
              obtain ⟨Ao143, co143, eo143⟩ := Kd.R_slice zfb.out
              (first | subst eo143 | (injection eo143 with f1_ f2_ f3_; have f4_ := f1_.symm; have f5_ := f3_.symm; clear f1_ f2_ f3_; subst f4_; subst f5_))
              refine hK.out _ _ ⟨(zc zB.out 0).trans rfl, (zc zA.out 0).trans rfl, (zc zA.out 1).trans rfl⟩ (fun hHeld => ?_)
              clear hK K
              refine norm_ (a' := ?_) ?_ ?_
              rotate_left
              ·show Act.put _ (some 78) _ = _
               simp only [pt, ps, p0, p1, zo, zp]
               rfl
              refine one_ (i := 4) (N := some 79) #[true, true, true, true, true, true, false] rfl rfl (by kernel_rfl) (by decide) (fun K hK => ?_)
              refine goes_ Tryd.func21 (by kernel_rfl) rfl #[.agg #[.slice Ao142 t365.length co142], .agg #[.int .i64 t368, .slice Ao143 t369.length co143]] (by rfl) rfl rfl (by (try simp only [List.map_toArray, List.map_cons, List.map_nil]); first | done | rfl) ?_
              with_reducible refine (impl_ApplyTxn.calls kj34 _ _ t365 t368 _ _ t369 t372 _ ?side1 ?side2 ?side3 ?side4 A126.out ?globMAX_).mono ?_; (case globMAX_ => exact Go.Proofs.YtfiojiokmkiflaaDoorH.GFMAX.below HGMAX_.out (by repeat (first | (with_reducible first | exact HB.out | exact Below.refl _ _ | apply zh | apply zf | apply zg | refine zd ?_ (Aside0.out (by assumption))) | exact HB.out)))
              (case side1 => repeat (first | exact (Kd.R_reads' zab.out).2.2 | (with_reducible refine Kd.C_alloc ?_ _) | (with_reducible refine Kd.C_drewN ?_ _) | (with_reducible refine Kd.C_drew ?_)))
              (case side2 => exact (Kd.R_reads' zab.out).2.1)
              (case side3 => repeat (first | exact (Kd.R_reads' zfb.out).2.2 | (with_reducible refine Kd.C_alloc ?_ _) | (with_reducible refine Kd.C_drewN ?_ _) | (with_reducible refine Kd.C_drew ?_)))
              (case side4 => exact (Kd.R_reads' zfb.out).2.1)
              rintro e w144 ⟨v373, rfl, zX, hb⟩
              refine ⟨_, rfl, ?_⟩
              have n0_ := Aside0.mk (Kd.R_elder' (RL zI.out) (Kd.R_base zX) hb)
              have n1_ := Aside0.mk (Kd.R_elder' (RL zJ.out) (Kd.R_base zX) hb)
              have n2_ := Aside0.mk (Kd.R_below (RL zM.out) hb)
              have n3_ := Aside0.mk (Kd.R_elder' (RL zD.out) (Kd.R_base zX) hb)
              have n4_ := Aside0.mk (Kd.R_elder' (RL zab.out) (Kd.R_base zX) hb)
              have n5_ := Aside0.mk (Kd.R_below (RL zfb.out) hb)
              have n6_ := Aside0.mk (Kd.R_lower (Kd.R_new' (Kd.R_new' (Kd.R_new' (Kd.R_new' zX (Kd.R_lt (RL zI.out))) (Kd.R_lt (RL zJ.out))) (Kd.R_lt (RL zD.out))) (Kd.R_lt (RL zab.out))) (zm (by repeat (first | (with_reducible first | exact HB.out | apply zh | apply zf | apply zg | refine zd ?_ zP.out | refine zd ?_ zQ.out | refine zd ?_ zS.out | refine zd ?_ zbb.out | refine zd ?_ zcb.out | refine zd ?_ zdb.out | refine zd ?_ zjb.out) | exact HB.out))))
              have n7_ := Aside0.mk (zi (g := zE) (o := .cells #[.slice A0_0 l0_0.length c0_0] 45 (0, 0)) (BL zB.out) hb)
              have n8_ := Aside0.mk (zi (g := zF) (o := .cells #[.int .i64 a1_0, .slice A1_1 l1_1.length c1_1] 48 (0, 0)) (BL zA.out) hb)
              have n9_ := Aside0.mk (zi (g := zL) (o := .cells #[.slice Ao51 t330.length co51] 25 (0, 0)) (BL zC.out) hb)
              have n10_ := Aside0.mk (zi (g := zU) (o := .cells #[.slice Ao57 t358.length co57] 25 (0, 0)) (BL zG.out) hb)
              have n11_ := Aside0.mk (zi (g := zT) (o := .cells #[.int .i64 t338, .slice Ao71 t360.length co71] 55 (0, 0)) (BL zH.out) hb)
              have n12_ := Aside0.mk (zi (g := zW) (o := .cells #[.slice Ao75 t343.length co75] 25 (0, 0)) (BL zK.out) hb)
              have n13_ := Aside0.mk (zi (g := zO) (o := .cells #[.slice none 0 0] 25 (0, 0)) (BL zgb.out) hb)
              have n14_ := Aside0.mk (zn (by repeat (first | (with_reducible first | exact HB.out | apply zh | apply zf | apply zg | refine zd ?_ zP.out | refine zd ?_ zQ.out | refine zd ?_ zS.out | refine zd ?_ zbb.out | refine zd ?_ zcb.out | refine zd ?_ zdb.out | refine zd ?_ zjb.out) | exact HB.out)) hb)
              clear zI
              clear zJ
              clear zM
              clear zD
              clear zab
              clear zfb
              clear zB
              clear zA
              clear zC
              clear zG
              clear zH
              clear zK
              clear zgb
              clear HB
              have zI := n0_
              have zJ := n1_
              have zM := n2_
              have zD := n3_
              have zab := n4_
              have zfb := n5_
              have zzb := n6_
              have zB := n7_
              have zA := n8_
              have zC := n9_
              have zG := n10_
              have zH := n11_
              have zK := n12_
              have zgb := n13_
              have HB := n14_
              clear n0_ n1_ n2_ n3_ n4_ n5_ n6_ n7_ n8_ n9_ n10_ n11_ n12_ n13_ n14_
              (try clear hb)
              (try clear hb2)
              (try clear hk)
              (try clear hi)
              (try clear zX)
              refine hK.out _ _ ⟨(zc zB.out 0).trans rfl, (zc zA.out 0).trans rfl, (zc zA.out 1).trans rfl⟩ (fun hHeld => ?_)
              clear hK K
              refine norm_ (a' := ?_) ?_ ?_
              rotate_left
              ·show Act.put _ (some 79) _ = _
               simp only [pt, ps, p0, p1, zo, zp]
               rfl
              exact norm_ (by simp only [putAll, Act.put, List.setIfInBounds_toArray, List.set_cons_zero, List.set_cons_succ]) (hCont (.slice Ao142 t365.length co142, .slice Ao143 t369.length co143, v373, zO) _ ⟨hHeld, (by exact RL (Kd.R_mono zab.out (fun _ hk => ⟨hk.2, ⟨hk.1.1.1.2, ⟨hk.1.1.2, hk.1.2⟩⟩⟩))), (by exact RL (Kd.R_mono zfb.out (fun _ hk => hk.2))), (by exact RL (Kd.R_mono zzb.out (fun _ hk => ⟨hk.2, ⟨hk.1.1.1.2, ⟨hk.1.1.2, hk.1.2⟩⟩⟩))), (by exact RL (Kd.R_mono zI.out (fun _ hk => ⟨hk.1.2, ⟨hk.2, ⟨hk.1.1.1, hk.1.1.2⟩⟩⟩))), (by exact RL (Kd.R_mono zJ.out (fun _ hk => ⟨hk.1.2, ⟨hk.2, ⟨hk.1.1.1, hk.1.1.2⟩⟩⟩))), (by exact RL (Kd.R_mono zM.out (fun _ hk => hk.2))), (by exact RL (Kd.R_mono zD.out (fun _ hk => ⟨hk.1.2, ⟨hk.2, ⟨hk.1.1.1, hk.1.1.2⟩⟩⟩))), (by exact BL zB.out), (by exact BL zA.out), (by exact BL zC.out), (by exact BL zG.out), (by exact BL zH.out), (by exact BL zK.out), (by exact BL zgb.out), GW375.out, zjb.out, zob.out, ztb.out, zlb.out, zub.out, zpb.out, zvb.out, zqb.out, zwb.out, zrb.out, zxb.out, zsb.out, zyb.out, (by repeat (first | (with_reducible first | exact HB.out | apply zh | apply zf | apply zg | refine zd ?_ zP.out | refine zd ?_ zQ.out | refine zd ?_ zS.out | refine zd ?_ zbb.out | refine zd ?_ zcb.out | refine zd ?_ zdb.out | refine zd ?_ zjb.out) | exact HB.out))⟩)
            rintro ⟨v366, v370, v373, zO⟩ w145 ⟨hS_, h0_, h1_, h2_, h3_, h4_, h5_, h6_, h7_, h8_, h9_, h10_, h11_, h12_, h13_, h14_, h15_, h16_, h17_, h18_, h19_, h20_, h21_, h22_, h23_, h24_, h25_, h26_, h27_, h28_⟩
            have n0_ : Aside0 (Kd.R k77 77 w145 w.heap.size (fun k_ => some k_ ≠ (v373 : Value).ownBlock ∧ some k_ ≠ (.slice Ao51 t330.length co51 : Value).ownBlock ∧ some k_ ≠ (.slice Ao57 t358.length co57 : Value).ownBlock ∧ some k_ ≠ (.slice Ao75 t343.length co75 : Value).ownBlock) v366 t365) := ⟨h0_⟩
            have n1_ : Aside0 (Kd.R k108 108 w145 w.heap.size (fun k_ => some k_ ≠ (.slice Ao71 t360.length co71 : Value).ownBlock) v370 t369) := ⟨h1_⟩
            have n2_ : Aside0 (Kd.R k77 77 w145 w.heap.size (fun k_ => some k_ ≠ (v366 : Value).ownBlock ∧ some k_ ≠ (.slice Ao51 t330.length co51 : Value).ownBlock ∧ some k_ ≠ (.slice Ao57 t358.length co57 : Value).ownBlock ∧ some k_ ≠ (.slice Ao75 t343.length co75 : Value).ownBlock) v373 t372) := ⟨h2_⟩
            have n3_ : Aside0 (Kd.R k77 77 w145 w.heap.size (fun k_ => some k_ ≠ (v366 : Value).ownBlock ∧ some k_ ≠ (v373 : Value).ownBlock ∧ some k_ ≠ (.slice Ao57 t358.length co57 : Value).ownBlock ∧ some k_ ≠ (.slice Ao75 t343.length co75 : Value).ownBlock) (.slice Ao51 t330.length co51) t330) := ⟨h3_⟩
            have n4_ : Aside0 (Kd.R k77 77 w145 w.heap.size (fun k_ => some k_ ≠ (v366 : Value).ownBlock ∧ some k_ ≠ (v373 : Value).ownBlock ∧ some k_ ≠ (.slice Ao51 t330.length co51 : Value).ownBlock ∧ some k_ ≠ (.slice Ao75 t343.length co75 : Value).ownBlock) (.slice Ao57 t358.length co57) t358) := ⟨h4_⟩
            have n5_ : Aside0 (Kd.R k108 108 w145 w.heap.size (fun k_ => some k_ ≠ (v370 : Value).ownBlock) (.slice Ao71 t360.length co71) t360) := ⟨h5_⟩
            have n6_ : Aside0 (Kd.R k77 77 w145 w.heap.size (fun k_ => some k_ ≠ (v366 : Value).ownBlock ∧ some k_ ≠ (v373 : Value).ownBlock ∧ some k_ ≠ (.slice Ao51 t330.length co51 : Value).ownBlock ∧ some k_ ≠ (.slice Ao57 t358.length co57 : Value).ownBlock) (.slice Ao75 t343.length co75) t363) := ⟨h6_⟩
            have n7_ : Aside0 (w145.heap[zE]? = some (.cells #[.slice A0_0 l0_0.length c0_0] 45 (0, 0))) := ⟨h7_⟩
            have n8_ : Aside0 (w145.heap[zF]? = some (.cells #[.int .i64 a1_0, .slice A1_1 l1_1.length c1_1] 48 (0, 0))) := ⟨h8_⟩
            have n9_ : Aside0 (w145.heap[zL]? = some (.cells #[.slice Ao51 t330.length co51] 25 (0, 0))) := ⟨h9_⟩
            have n10_ : Aside0 (w145.heap[zU]? = some (.cells #[.slice Ao57 t358.length co57] 25 (0, 0))) := ⟨h10_⟩
            have n11_ : Aside0 (w145.heap[zT]? = some (.cells #[.int .i64 t338, .slice Ao71 t360.length co71] 55 (0, 0))) := ⟨h11_⟩
            have n12_ : Aside0 (w145.heap[zW]? = some (.cells #[.slice Ao75 t343.length co75] 25 (0, 0))) := ⟨h12_⟩
            have n13_ : Aside0 (w145.heap[zO]? = some (.cells #[.slice none 0 0] 25 (0, 0))) := ⟨h13_⟩
            have n14_ : Aside0 (w.heap.size ≤ zO) := ⟨h14_⟩
            have n15_ : Aside0 (w.heap.size ≤ zO) := ⟨h15_⟩
            have n16_ : Aside0 (zE ≠ zO) := ⟨h16_⟩
            have n17_ : Aside0 (zO ≠ zE) := ⟨h17_⟩
            have n18_ : Aside0 (zF ≠ zO) := ⟨h18_⟩
            have n19_ : Aside0 (zO ≠ zF) := ⟨h19_⟩
            have n20_ : Aside0 (zL ≠ zO) := ⟨h20_⟩
            have n21_ : Aside0 (zO ≠ zL) := ⟨h21_⟩
            have n22_ : Aside0 (zU ≠ zO) := ⟨h22_⟩
            have n23_ : Aside0 (zO ≠ zU) := ⟨h23_⟩
            have n24_ : Aside0 (zT ≠ zO) := ⟨h24_⟩
            have n25_ : Aside0 (zO ≠ zT) := ⟨h25_⟩
            have n26_ : Aside0 (zW ≠ zO) := ⟨h26_⟩
            have n27_ : Aside0 (zO ≠ zW) := ⟨h27_⟩
            have n28_ : Aside0 (Below w.heap.size w w145) := ⟨h28_⟩
            clear zI
            clear zJ
            clear zM
            clear zD
            clear zB
            clear zA
            clear zC
            clear zG
            clear zH
            clear zK
            clear HB
            clear h0_ h1_ h2_ h3_ h4_ h5_ h6_ h7_ h8_ h9_ h10_ h11_ h12_ h13_ h14_ h15_ h16_ h17_ h18_ h19_ h20_ h21_ h22_ h23_ h24_ h25_ h26_ h27_ h28_
            have zab := n0_
            have zfb := n1_
            have zzb := n2_
            have zI := n3_
            have zJ := n4_
            have zM := n5_
            have zD := n6_
            have zB := n7_
            have zA := n8_
            have zC := n9_
            have zG := n10_
            have zH := n11_
            have zK := n12_
            have zgb := n13_
            have GW375 := n14_
            have zjb := n15_
            have zob := n16_
            have ztb := n17_
            have zlb := n18_
            have zub := n19_
            have zpb := n20_
            have zvb := n21_
            have zqb := n22_
            have zwb := n23_
            have zrb := n24_
            have zxb := n25_
            have zsb := n26_
            have zyb := n27_
            have HB := n28_
            clear n0_ n1_ n2_ n3_ n4_ n5_ n6_ n7_ n8_ n9_ n10_ n11_ n12_ n13_ n14_ n15_ n16_ n17_ n18_ n19_ n20_ n21_ n22_ n23_ n24_ n25_ n26_ n27_ n28_
            have hHeld : w145.cell? ⟨zE, 0, none⟩ = some (.slice A0_0 l0_0.length c0_0) ∧ w145.cell? ⟨zF, 0, none⟩ = some (.int .i64 a1_0) ∧ w145.cell? ⟨zF, 1, none⟩ = some (.slice A1_1 l1_1.length c1_1) := hS_
            obtain ⟨Ao146, co146, eo146⟩ := Kd.R_slice zzb.out
            (first | subst eo146 | (injection eo146 with f1_ f2_ f3_; have f4_ := f1_.symm; have f5_ := f3_.symm; clear f1_ f2_ f3_; subst f4_; subst f5_))
            refine norm_ (a' := ?_) ?_ ?_
            rotate_left
            ·simp only [putAll, Act.put, List.setIfInBounds_toArray, List.set_cons_zero, List.set_cons_succ]
             rfl
            refine one_ (i := 6) (N := none) #[true, true, true, true, true, true, true] rfl rfl (by kernel_rfl) (by decide) (fun K hK => ?_)
            have hs147 : w145.cell? ⟨zO, 0, none⟩ = some (.slice none 0 0) := (zc zgb.out 0).trans rfl
            have hfs147 := ze zgb.out 0
            have hns147_0 := zob.out
            have hns147_1 := zlb.out
            have hns147_2 := zpb.out
            have hns147_3 := zqb.out
            have hns147_4 := zrb.out
            have hns147_5 := zsb.out
            have hms147_0 := ztb.out
            have hms147_1 := zub.out
            have hms147_2 := zvb.out
            have hms147_3 := zwb.out
            have hms147_4 := zxb.out
            have hms147_5 := zyb.out
            refine skip_ (w1 := ?_) (by rfl) rfl ?_ ?_
            rotate_left
            ·go_simp
             rfl
            refine hK.out _ _ ⟨((cell_far (p := ⟨zO, _, none⟩) zob.out _).trans (hHeld.1)), ((cell_far (p := ⟨zO, _, none⟩) zlb.out _).trans (hHeld.2.1)), ((cell_far (p := ⟨zO, _, none⟩) zlb.out _).trans (hHeld.2.2))⟩ (fun hHeld => ?_)
            clear hK K
            refine done_ (by kernel_rfl) ?_
            have zxd := ztb.out
            have zyd := zob.out
            have zzd := zub.out
            have zAd := zlb.out
            have zBd := zvb.out
            have zCd := zpb.out
            have zDd := zwb.out
            have zEd := zqb.out
            have zFd := zxb.out
            have zGd := zrb.out
            have zHd := zyb.out
            have zId := zsb.out
            have zHc : w145.cell? ⟨zO, 0, none⟩ = some (.slice none 0 0) := (zc zgb.out 0).trans rfl
            have zIc := ze zgb.out 0
            have zJd := zmb.out
            have zKd := zib.out
            have zLd := znb.out
            have zMd := zhb.out
            have zNd := zEb.out
            have zOd := zKb.out
            have zPd := zDb.out
            have zQd := zNb.out
            have zJc : w145.cell? ⟨zL, 0, none⟩ = some (.slice Ao51 t330.length co51) := (zc zC.out 0).trans rfl
            have zKc := ze zC.out 0
            try go_wp2_with (first | ((with_reducible refine zr (f := 22) rfl ?_); have y0_ := Aside0.mk (Kd.R_mono (Kd.R_far (p := ⟨zO, 0, none⟩) (Kd.R_types zI.out zgb.out (by decide)) (fun _ hk => hk.2) (.slice Ao146 t372.length co146)) (fun _ h_ => h_.1)); have y4_ := Aside0.mk (Kd.R_mono (Kd.R_far (p := ⟨zO, 0, none⟩) (Kd.R_types zzb.out zgb.out (by decide)) (fun _ hk => hk.2) (.slice Ao146 t372.length co146)) (fun _ h_ => h_.1)); refine zz (some 82) rfl rfl Tryd.func22 (by kernel_rfl) rfl #[.agg #[.slice Ao146 t372.length co146], .agg #[.slice Ao51 t330.length co51]] rfl (by (try simp only [List.map_toArray, List.map_cons, List.map_nil]); first | done | rfl) ?_; (with_reducible refine (laws_eqTree.calls kj34 _ _ t372 _ _ t330 true _ ?side1 ?side2 ?side3 ?side4 A127.out).mono ?_); (case side1 => refine (Kd.R_reads' (e := 77) (base := w.heap.size) (ok := fun k_ => (some k_ ≠ (v366 : Value).ownBlock ∧ (some k_ ≠ (.slice Ao51 t330.length co51 : Value).ownBlock ∧ (some k_ ≠ (.slice Ao57 t358.length co57 : Value).ownBlock ∧ some k_ ≠ (.slice Ao75 t343.length co75 : Value).ownBlock)))) (n := t372.length) (c := co146) ?_).2.2; exact (RL y4_.out)); (case side2 => exact (Kd.R_reads' zzb.out).2.1); (case side3 => refine (Kd.R_reads' (e := 77) (base := w.heap.size) (ok := fun k_ => (some k_ ≠ (v366 : Value).ownBlock ∧ (some k_ ≠ (.slice Ao146 t372.length co146 : Value).ownBlock ∧ (some k_ ≠ (.slice Ao57 t358.length co57 : Value).ownBlock ∧ some k_ ≠ (.slice Ao75 t343.length co75 : Value).ownBlock)))) (n := t330.length) (c := co51) ?_).2.2; exact (RL y0_.out)); (case side4 => exact (Kd.R_reads' zI.out).2.1); rintro e w160 ⟨rfl, hb⟩; refine ⟨_, rfl, ?_⟩; have n0_ := Aside0.mk (Kd.R_below (RL y0_.out) hb); have n1_ := Aside0.mk (Kd.R_below (RL ((Kd.R_mono (Kd.R_far (p := ⟨zO, 0, none⟩) (Kd.R_types zJ.out zgb.out (by decide)) (fun _ hk => hk.2) (.slice Ao146 t372.length co146)) (fun _ h_ => h_.1)))) hb); have n2_ := Aside0.mk (Kd.R_below (RL ((Kd.R_mono (Kd.R_far (p := ⟨zO, 0, none⟩) (Kd.R_types zM.out zgb.out (by decide)) (fun _ hk => hk.2) (.slice Ao146 t372.length co146)) (fun _ h_ => h_.1)))) hb); have n3_ := Aside0.mk (Kd.R_below (RL ((Kd.R_mono (Kd.R_far (p := ⟨zO, 0, none⟩) (Kd.R_types zD.out zgb.out (by decide)) (fun _ hk => hk.2) (.slice Ao146 t372.length co146)) (fun _ h_ => h_.1)))) hb); have n4_ := Aside0.mk (Kd.R_below (RL ((Kd.R_mono (Kd.R_far (p := ⟨zO, 0, none⟩) (Kd.R_types zab.out zgb.out (by decide)) (fun _ hk => hk.2) (.slice Ao146 t372.length co146)) (fun _ h_ => h_.1)))) hb); have n5_ := Aside0.mk (Kd.R_below (RL ((Kd.R_mono (Kd.R_far (p := ⟨zO, 0, none⟩) (Kd.R_types zfb.out zgb.out (by decide)) (fun _ hk => hk.2) (.slice Ao146 t372.length co146)) (fun _ h_ => h_.1)))) hb); have n6_ := Aside0.mk (Kd.R_below (RL y4_.out) hb); have n7_ := Aside0.mk (zi (g := zE) (o := .cells #[.slice A0_0 l0_0.length c0_0] 45 (0, 0)) (by (with_reducible repeat (first | refine zk ?_ _ | refine zl ?_ | refine zj ?_ _)); refine zw ?_ zob.out _; (with_reducible repeat (first | refine zk ?_ _ | refine zl ?_ | refine zj ?_ _)); exact zB.out) hb); have n8_ := Aside0.mk (zi (g := zF) (o := .cells #[.int .i64 a1_0, .slice A1_1 l1_1.length c1_1] 48 (0, 0)) (by (with_reducible repeat (first | refine zk ?_ _ | refine zl ?_ | refine zj ?_ _)); refine zw ?_ zlb.out _; (with_reducible repeat (first | refine zk ?_ _ | refine zl ?_ | refine zj ?_ _)); exact zA.out) hb); have n9_ := Aside0.mk (zi (g := zL) (o := .cells #[.slice Ao51 t330.length co51] 25 (0, 0)) (by (with_reducible repeat (first | refine zk ?_ _ | refine zl ?_ | refine zj ?_ _)); refine zw ?_ zpb.out _; (with_reducible repeat (first | refine zk ?_ _ | refine zl ?_ | refine zj ?_ _)); exact zC.out) hb); have n10_ := Aside0.mk (zi (g := zU) (o := .cells #[.slice Ao57 t358.length co57] 25 (0, 0)) (by (with_reducible repeat (first | refine zk ?_ _ | refine zl ?_ | refine zj ?_ _)); refine zw ?_ zqb.out _; (with_reducible repeat (first | refine zk ?_ _ | refine zl ?_ | refine zj ?_ _)); exact zG.out) hb); have n11_ := Aside0.mk (zi (g := zT) (o := .cells #[.int .i64 t338, .slice Ao71 t360.length co71] 55 (0, 0)) (by (with_reducible repeat (first | refine zk ?_ _ | refine zl ?_ | refine zj ?_ _)); refine zw ?_ zrb.out _; (with_reducible repeat (first | refine zk ?_ _ | refine zl ?_ | refine zj ?_ _)); exact zH.out) hb); have n12_ := Aside0.mk (zi (g := zW) (o := .cells #[.slice Ao75 t343.length co75] 25 (0, 0)) (by (with_reducible repeat (first | refine zk ?_ _ | refine zl ?_ | refine zj ?_ _)); refine zw ?_ zsb.out _; (with_reducible repeat (first | refine zk ?_ _ | refine zl ?_ | refine zj ?_ _)); exact zK.out) hb); have n13_ := Aside0.mk (zi (g := zO) (o := .cells #[.slice Ao146 t372.length co146] 25 (0, 0)) (by (with_reducible repeat (first | refine zk ?_ _ | refine zl ?_ | refine zj ?_ _)); refine zv (cs := #[.slice none 0 0]) ?_ 0 _ rfl; (with_reducible repeat (first | refine zk ?_ _ | refine zl ?_ | refine zj ?_ _)); exact zgb.out) hb); have n14_ := Aside0.mk (zn (by repeat (first | (with_reducible first | exact HB.out | apply zh | apply zf | apply zg | refine zd ?_ zP.out | refine zd ?_ zQ.out | refine zd ?_ zS.out | refine zd ?_ zbb.out | refine zd ?_ zcb.out | refine zd ?_ zdb.out | refine zd ?_ zjb.out) | exact HB.out)) hb); clear zI; clear zJ; clear zM; clear zD; clear zab; clear zfb; clear zzb; clear zB; clear zA; clear zC; clear zG; clear zH; clear zK; clear zgb; clear HB; have zI := n0_; have zJ := n1_; have zM := n2_; have zD := n3_; have zab := n4_; have zfb := n5_; have zzb := n6_; have zB := n7_; have zA := n8_; have zC := n9_; have zG := n10_; have zH := n11_; have zK := n12_; have zgb := n13_; have HB := n14_; clear n0_ n1_ n2_ n3_ n4_ n5_ n6_ n7_ n8_ n9_ n10_ n11_ n12_ n13_ n14_; (try clear hb); (try clear hb2); (try clear hk); (try clear hi); (try clear y0_ y4_)))
            go_ret
            exact ⟨by first | rfl | (simp [*] <;> rfl), by repeat (first | (with_reducible first | exact HB.out | apply zh | apply zf | apply zg | refine zd ?_ zP.out | refine zd ?_ zQ.out | refine zd ?_ zS.out | refine zd ?_ zbb.out | refine zd ?_ zcb.out | refine zd ?_ zdb.out | refine zd ?_ zjb.out) | exact HB.out)⟩
           ·replace c128 := Bool.eq_false_iff.mpr c128
            subst c128
            rw [if_neg (show ¬ (false = true) by decide)] at H
            exact absurd H (by simp)
          ·rw [if_neg c123] at H
           have c123b0 : (t364 == t362) = false := beq_eq_false_iff_ne.mpr c123
           have c123b1 : (t364 != t362) = true := bne_iff_ne.mpr c123
           exact absurd H (by simp)
     ·replace c32 := Bool.eq_false_iff.mpr c32
      subst c32
      rw [if_neg (show ¬ (false = true) by decide)] at H
      exact absurd H (by simp)
    ·replace c29 := Bool.eq_false_iff.mpr c29
     subst c29
     rw [if_neg (show ¬ (false = true) by decide)] at H
     exact absurd H (by simp)
   ·replace c26 := Bool.eq_false_iff.mpr c26
    subst c26
    rw [if_neg (show ¬ (false = true) by decide)] at H
    exact absurd H (by simp)
/-- THE ONE PURE STATEMENT of laws_FnExactApplyTxn. -/
def laws_FnExactApplyTxn.Pure : Prop := ∀ (l0_0 : List (S171)) (a1_0 : Int) (l1_1 : List (S174)), (l0_0.length ≤ maxLen ∧ ∀ z0_ ∈ l0_0, (z0_.f0.size ≤ maxLen ∧ z0_.f1.size ≤ maxLen ∧ (Lit.int .i64 z0_.f2).wf = true ∧ (Lit.int .i64 z0_.f3).wf = true ∧ (Lit.int .i64 z0_.f4).wf = true ∧ (Lit.int .i64 z0_.f5).wf = true ∧ (Lit.int .i64 z0_.f6).wf = true)) → (Lit.int .i64 a1_0).wf = true → (l1_1.length ≤ maxLen ∧ ∀ z0_ ∈ l1_1, (True ∧ (z0_.f1.f0.size ≤ maxLen ∧ z0_.f1.f1.size ≤ maxLen ∧ (Lit.int .i64 z0_.f1.f2).wf = true ∧ (Lit.int .i64 z0_.f1.f3).wf = true ∧ (Lit.int .i64 z0_.f1.f4).wf = true ∧ (Lit.int .i64 z0_.f1.f5).wf = true ∧ (Lit.int .i64 z0_.f1.f6).wf = true))) → ∃ k, laws_FnExactApplyTxn.f k l0_0 a1_0 l1_1 = some true

end Go.Proofs.YtfiojiokmkiflaaDoor.GFnExactApplyTxn
