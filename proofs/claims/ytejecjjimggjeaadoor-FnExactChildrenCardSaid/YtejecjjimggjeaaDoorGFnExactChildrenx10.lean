/- Written by give.py, a program of this session, that runs the kit's print and lays contracts proved by hand beside it. -/
import Derived.Test.YtejecjjimggjeaaDoorGFnExactChildrenx0
import Derived.Test.YtejecjjimggjeaaDoorGFnExactChildrenx1
import Derived.Test.YtejecjjimggjeaaDoorGFnExactChildrenx4
import Derived.Test.YtejecjjimggjeaaDoorGFnExactChildrenx7
import Derived.Test.YtejecjjimggjeaaDoorGFnExactChildrenx8
import Derived.Test.YtejecjjimggjeaaDoorGFnExactChildrenx9
namespace Go.Proofs.YtejecjjimggjeaaDoor.GFnExactChildren
open Go.RowKit Go.Proofs.YtejecjjimggjeaaDoorW.PrintWords Go.Proofs.YtejecjjimggjeaaDoorW.PrintLast Go.Proofs.YtejecjjimggjeaaDoorW.PrintMore
attribute [local go_sem] max2_int min2_int max_two min_two max_three min_three max_four min_four
attribute [local go_sem high] Go.Proofs.YtejecjjimggjeaaDoorH.str_leq Go.Proofs.YtejecjjimggjeaaDoorH.str_geq Go.Proofs.YtejecjjimggjeaaDoorH.str_gtr   -- for this text's walks alone
set_option linter.unusedVariables false
set_option linter.unusedSimpArgs false

def laws_FnExactChildren.j0 : Nat → ByteArray → List ByteArray → List ByteArray → Bool → List (S100) → Option (Bool)
 | 0, _, _, _, _, _ => none
 | k + 1, x1, x6, x8, x49, x252000 => if x49 = true then (some false) else ((laws_markStringS.f k x8 1).bind fun bt274 => ((laws_heldStringS.f k bt274.2 1).bind fun t276 => (if t276 < 0 then (some false) else (if t276 = bt274.1 then ((laws_toTree.f k x252000).bind fun t277 => ((impl_Children.f k t277 x1).bind fun t280 => ((laws_eqStringS.f k t280 x6).bind fun t283 => (if t283 = true then (some true) else (some false))))) else (some false)))))
def laws_FnExactChildren.f (k : Nat) (l0_0 : List (S100)) (a1 : ByteArray) : Option (Bool) := if (a1.size : Int) > 1048576 then (some true) else ((laws_szTree.f k l0_0 1048576).bind fun t252 => (if t252 < 0 then (some true) else ((laws_toTree.f k l0_0).bind fun t253 => ((spec_Children.f k t253 a1).bind fun t256 => ((laws_toTree.f k l0_0).bind fun t259 => ((impl_Children.f k t259 a1).bind fun t263 => ((laws_eqStringS.f k t263 t256).bind fun t266 => (if t266 = true then ((laws_toTree.f k l0_0).bind fun t267 => ((laws_eqTree.f k t259 t267).bind fun t270 => (if t270 = true then ((laws_markTree.f k t259 1).bind fun bt271 => (if bt271.1 < 0 then (laws_FnExactChildren.j0 k a1 t256 t263 true l0_0) else ((laws_eqStringS.f k t263 t256).bind fun t273 => (laws_FnExactChildren.j0 k a1 t256 t263 (!t273) l0_0)))) else (some false)))) else (some false)))))))))
theorem laws_FnExactChildren.mono_l : ∀ k, (∀ y0 y1 y2 y3 y4, LeO (laws_FnExactChildren.j0 k y0 y1 y2 y3 y4) (laws_FnExactChildren.j0 (k + 1) y0 y1 y2 y3 y4))
 | 0 => fun _ _ _ _ _ r h => by simp [laws_FnExactChildren.j0] at h
 | k + 1 => by
  have ih0 := laws_FnExactChildren.mono_l k
  ·intro y0 y1 y2 y3 y4
   unfold laws_FnExactChildren.j0
   repeat' first
   | (with_reducible exact ih0 _ _ _ _ _)
   | (with_reducible exact impl_Children.mono _ _ _)
   | (with_reducible exact laws_eqStringS.mono _ _ _)
   | (with_reducible exact laws_eqTree.mono _ _ _)
   | (with_reducible exact laws_heldStringS.mono _ _ _)
   | (with_reducible exact laws_markStringS.mono _ _ _)
   | (with_reducible exact laws_markTree.mono _ _ _)
   | (with_reducible exact laws_szTree.mono _ _ _)
   | (with_reducible exact laws_toTree.mono _ _)
   | (with_reducible exact spec_Children.mono _ _ _)
   | (with_reducible exact LeO.refl _)
   | (with_reducible exact LeO.none _)
   | (with_reducible refine LeO.ite ?_ ?_)
   | (with_reducible refine LeO.bind ?_ (fun _ => ?_))
   | exact ih0 _ _ _ _ _
   | exact impl_Children.mono _ _ _
   | exact laws_eqStringS.mono _ _ _
   | exact laws_eqTree.mono _ _ _
   | exact laws_heldStringS.mono _ _ _
   | exact laws_markStringS.mono _ _ _
   | exact laws_markTree.mono _ _ _
   | exact laws_szTree.mono _ _ _
   | exact laws_toTree.mono _ _
   | exact spec_Children.mono _ _ _
   | exact LeO.none _
   | refine LeO.ite ?_ ?_
   | refine LeO.bind ?_ (fun _ => ?_)
theorem laws_FnExactChildren.mono : ∀ a0 a1 k, LeO (laws_FnExactChildren.f k a0 a1) (laws_FnExactChildren.f (k + 1) a0 a1) := by
 intro a0 a1 k
 have ih0 := laws_FnExactChildren.mono_l k
 unfold laws_FnExactChildren.f
 repeat' first
   | (with_reducible exact ih0 _ _ _ _ _)
   | (with_reducible exact impl_Children.mono _ _ _)
   | (with_reducible exact laws_eqStringS.mono _ _ _)
   | (with_reducible exact laws_eqTree.mono _ _ _)
   | (with_reducible exact laws_heldStringS.mono _ _ _)
   | (with_reducible exact laws_markStringS.mono _ _ _)
   | (with_reducible exact laws_markTree.mono _ _ _)
   | (with_reducible exact laws_szTree.mono _ _ _)
   | (with_reducible exact laws_toTree.mono _ _)
   | (with_reducible exact spec_Children.mono _ _ _)
   | (with_reducible exact LeO.refl _)
   | (with_reducible exact LeO.none _)
   | (with_reducible refine LeO.ite ?_ ?_)
   | (with_reducible refine LeO.bind ?_ (fun _ => ?_))
   | exact ih0 _ _ _ _ _
   | exact impl_Children.mono _ _ _
   | exact laws_eqStringS.mono _ _ _
   | exact laws_eqTree.mono _ _ _
   | exact laws_heldStringS.mono _ _ _
   | exact laws_markStringS.mono _ _ _
   | exact laws_markTree.mono _ _ _
   | exact laws_szTree.mono _ _ _
   | exact laws_toTree.mono _ _
   | exact spec_Children.mono _ _ _
   | exact LeO.none _
   | refine LeO.ite ?_ ?_
   | refine LeO.bind ?_ (fun _ => ?_)
set_option maxHeartbeats 8000000 in
set_option maxRecDepth 100000 in
theorem laws_FnExactChildren.calls (k : Nat) (A0_0 : Option Addr) (c0_0 : Nat) (l0_0 : List (S100)) (a1 : ByteArray) (r : Bool) (w : World) (hr0_0 : Kd.C k100 w A0_0 l0_0.length l0_0) (hc0_0 : l0_0.length ≤ c0_0) (h : laws_FnExactChildren.f k l0_0 a1 = some r) (hGMAX_ : Go.Proofs.YtejecjjimggjeaaDoorH.GFMAX w) :
  Calls Tryd.prog 5 #[.agg #[.slice A0_0 l0_0.length c0_0], .string a1] w fun e w' => e = .returned (.bool r) ∧ Below w.heap.size w w' := by
 have HGMAX_ := Aside0.mk hGMAX_
 clear hGMAX_
 have hu39 := Tryd.underlying39
 have hu45 := Tryd.underlying45
 have HR0_0 := Aside0.mk hr0_0
 have HC0_0 := Aside0.mk hc0_0
 clear hr0_0 hc0_0
 have HB := Aside0.mk (Below.refl w.heap.size w)
 have H : (if (a1.size : Int) > 1048576 then (some true) else ((laws_szTree.f k l0_0 1048576).bind fun t252 => (if t252 < 0 then (some true) else ((laws_toTree.f k l0_0).bind fun t253 => ((spec_Children.f k t253 a1).bind fun t256 => ((laws_toTree.f k l0_0).bind fun t259 => ((impl_Children.f k t259 a1).bind fun t263 => ((laws_eqStringS.f k t263 t256).bind fun t266 => (if t266 = true then ((laws_toTree.f k l0_0).bind fun t267 => ((laws_eqTree.f k t259 t267).bind fun t270 => (if t270 = true then ((laws_markTree.f k t259 1).bind fun bt271 => (if bt271.1 < 0 then (laws_FnExactChildren.j0 k a1 t256 t263 true l0_0) else ((laws_eqStringS.f k t263 t256).bind fun t273 => (laws_FnExactChildren.j0 k a1 t256 t263 (!t273) l0_0)))) else (some false)))) else (some false)))))))))) = some r := h
 clear h
 by_cases c3 : (a1.size : Int) > 1048576
 ·rw [if_pos c3] at H
  have c3b0 : decide (1048576 < (a1.size : Int)) = true := decide_eq_true c3
  have c3b1 : decide (1048576 < a1.size) = true := decide_eq_true (by omega)
  clear c3
  obtain rfl := Option.some.inj H
  go_enter Tryd.func5, Tryd.ntmps5
  go_wp2_with (first | ((with_reducible refine zu (N := 2) rfl ?_); refine zs ?hg (N := 2) ?hd (cs := #[.slice A0_0 l0_0.length c0_0]) (t := 39) ?hr ?_; (case hd => rfl); (case hg => rfl); (case hr => first | (go_simp; done) | (go_simp; rfl)); intro zA hg w4 hbox hb; have n0_ := Aside0.mk (zi (by exact bl HB.out) hb); have n1_ := Aside0.mk (hbox); have n2_ := Aside0.mk ((by rw [hg]; exact (zh (by exact bl HB.out)) : w.heap.size ≤ zA)); have n3_ := Aside0.mk ((by rw [hg]; exact (zh (by exact bl HB.out)) : w.heap.size ≤ zA)); clear HB; have HB := n0_; have zx := n1_; have GW251 := n2_; have zJ := n3_; clear n0_ n1_ n2_ n3_; clear hb hbox hg))
  go_ret
  exact ⟨by first | rfl | (simp [errW_none, errW_some] <;> rfl) | (simp [*, errW_none, errW_some] <;> rfl), by repeat (first | (with_reducible first | exact HB.out | apply zg | apply zd | apply zf | refine zj ?_ zJ.out) | exact HB.out)⟩
 ·rw [if_neg c3] at H
  have c3b0 : decide (1048576 < (a1.size : Int)) = false := decide_eq_false c3
  have c3b1 : decide (1048576 < a1.size) = false := decide_eq_false (by omega)
  clear c3
  replace H := Option.bind_eq_some_iff.mp H
  obtain ⟨t252, A50, H⟩ := H
  replace H : (if t252 < 0 then (some true) else ((laws_toTree.f k l0_0).bind fun t253 => ((spec_Children.f k t253 a1).bind fun t256 => ((laws_toTree.f k l0_0).bind fun t259 => ((impl_Children.f k t259 a1).bind fun t263 => ((laws_eqStringS.f k t263 t256).bind fun t266 => (if t266 = true then ((laws_toTree.f k l0_0).bind fun t267 => ((laws_eqTree.f k t259 t267).bind fun t270 => (if t270 = true then ((laws_markTree.f k t259 1).bind fun bt271 => (if bt271.1 < 0 then (laws_FnExactChildren.j0 k a1 t256 t263 true l0_0) else ((laws_eqStringS.f k t263 t256).bind fun t273 => (laws_FnExactChildren.j0 k a1 t256 t263 (!t273) l0_0)))) else (some false)))) else (some false)))))))) = some r := H
  have A5 := Aside0.mk A50
  clear A50
  by_cases c6 : t252 < 0
  ·rw [if_pos c6] at H
   have c6b0 : decide (t252 < 0) = true := decide_eq_true c6
   clear c6
   obtain rfl := Option.some.inj H
   go_enter Tryd.func5, Tryd.ntmps5
   go_wp2_with (first | ((with_reducible refine zu (N := 2) rfl ?_); refine zs ?hg (N := 2) ?hd (cs := #[.slice A0_0 l0_0.length c0_0]) (t := 39) ?hr ?_; (case hd => rfl); (case hg => rfl); (case hr => first | (go_simp; done) | (go_simp; rfl)); intro zA hg w7 hbox hb; have n0_ := Aside0.mk (zi (by exact bl HB.out) hb); have n1_ := Aside0.mk (hbox); have n2_ := Aside0.mk ((by rw [hg]; exact (zh (by exact bl HB.out)) : w.heap.size ≤ zA)); have n3_ := Aside0.mk ((by rw [hg]; exact (zh (by exact bl HB.out)) : w.heap.size ≤ zA)); clear HB; have HB := n0_; have zx := n1_; have GW251 := n2_; have zJ := n3_; clear n0_ n1_ n2_ n3_; clear hb hbox hg; have zab : w7.cell? ⟨zA, 0, none⟩ = some (.slice A0_0 l0_0.length c0_0) := (ze zx.out 0).trans rfl; have zbb := zc zx.out 0) | ((with_reducible refine zk (f := 17) rfl ?_); refine zv (some 18) rfl rfl Tryd.func17 (by kernel_rfl) rfl #[.agg #[.slice A0_0 l0_0.length c0_0], .int .i64 1048576] rfl (by (try simp only [List.map_toArray, List.map_cons, List.map_nil]); first | done | rfl) ?_; (with_reducible refine (laws_szTree.calls k _ _ l0_0 1048576 t252 _ ?side1 ?side2 A5.out).mono ?_); (case side1 => repeat (first | exact (Kd.C_below HR0_0.out HB.out) | (with_reducible refine Kd.C_alloc ?_ _) | (with_reducible refine Kd.C_drewN ?_ _) | (with_reducible refine Kd.C_drew ?_))); (case side2 => exact HC0_0.out); rintro e w9 ⟨rfl, hb⟩; refine ⟨_, rfl, ?_⟩; have n0_ := Aside0.mk (zm (g := zA) (o := .cells #[.slice A0_0 l0_0.length c0_0] 39 (0, 0)) (BL zx.out) hb); have n1_ := Aside0.mk (zi (by exact bl HB.out) hb); clear zx; clear HB; have zx := n0_; have HB := n1_; clear n0_ n1_; (try clear hb); (try clear hb2); (try clear hk); (try clear hi)))
   go_ret
   exact ⟨by first | rfl | (simp [errW_none, errW_some] <;> rfl) | (simp [*, errW_none, errW_some] <;> rfl), by repeat (first | (with_reducible first | exact HB.out | apply zg | apply zd | apply zf | refine zj ?_ zJ.out) | exact HB.out)⟩
  ·rw [if_neg c6] at H
   have c6b0 : decide (t252 < 0) = false := decide_eq_false c6
   clear c6
   replace H := Option.bind_eq_some_iff.mp H
   obtain ⟨t253, A100, H⟩ := H
   replace H : ((spec_Children.f k t253 a1).bind fun t256 => ((laws_toTree.f k l0_0).bind fun t259 => ((impl_Children.f k t259 a1).bind fun t263 => ((laws_eqStringS.f k t263 t256).bind fun t266 => (if t266 = true then ((laws_toTree.f k l0_0).bind fun t267 => ((laws_eqTree.f k t259 t267).bind fun t270 => (if t270 = true then ((laws_markTree.f k t259 1).bind fun bt271 => (if bt271.1 < 0 then (laws_FnExactChildren.j0 k a1 t256 t263 true l0_0) else ((laws_eqStringS.f k t263 t256).bind fun t273 => (laws_FnExactChildren.j0 k a1 t256 t263 (!t273) l0_0)))) else (some false)))) else (some false)))))) = some r := H
   have A10 := Aside0.mk A100
   clear A100
   replace H := Option.bind_eq_some_iff.mp H
   obtain ⟨t256, A110, H⟩ := H
   replace H : ((laws_toTree.f k l0_0).bind fun t259 => ((impl_Children.f k t259 a1).bind fun t263 => ((laws_eqStringS.f k t263 t256).bind fun t266 => (if t266 = true then ((laws_toTree.f k l0_0).bind fun t267 => ((laws_eqTree.f k t259 t267).bind fun t270 => (if t270 = true then ((laws_markTree.f k t259 1).bind fun bt271 => (if bt271.1 < 0 then (laws_FnExactChildren.j0 k a1 t256 t263 true l0_0) else ((laws_eqStringS.f k t263 t256).bind fun t273 => (laws_FnExactChildren.j0 k a1 t256 t263 (!t273) l0_0)))) else (some false)))) else (some false))))) = some r := H
   have A11 := Aside0.mk A110
   clear A110
   replace H := Option.bind_eq_some_iff.mp H
   obtain ⟨t259, A120, H⟩ := H
   replace H : ((impl_Children.f k t259 a1).bind fun t263 => ((laws_eqStringS.f k t263 t256).bind fun t266 => (if t266 = true then ((laws_toTree.f k l0_0).bind fun t267 => ((laws_eqTree.f k t259 t267).bind fun t270 => (if t270 = true then ((laws_markTree.f k t259 1).bind fun bt271 => (if bt271.1 < 0 then (laws_FnExactChildren.j0 k a1 t256 t263 true l0_0) else ((laws_eqStringS.f k t263 t256).bind fun t273 => (laws_FnExactChildren.j0 k a1 t256 t263 (!t273) l0_0)))) else (some false)))) else (some false)))) = some r := H
   have A12 := Aside0.mk A120
   clear A120
   replace H := Option.bind_eq_some_iff.mp H
   obtain ⟨t263, A130, H⟩ := H
   replace H : ((laws_eqStringS.f k t263 t256).bind fun t266 => (if t266 = true then ((laws_toTree.f k l0_0).bind fun t267 => ((laws_eqTree.f k t259 t267).bind fun t270 => (if t270 = true then ((laws_markTree.f k t259 1).bind fun bt271 => (if bt271.1 < 0 then (laws_FnExactChildren.j0 k a1 t256 t263 true l0_0) else ((laws_eqStringS.f k t263 t256).bind fun t273 => (laws_FnExactChildren.j0 k a1 t256 t263 (!t273) l0_0)))) else (some false)))) else (some false))) = some r := H
   have A13 := Aside0.mk A130
   clear A130
   replace H := Option.bind_eq_some_iff.mp H
   obtain ⟨t266, A140, H⟩ := H
   replace H : (if t266 = true then ((laws_toTree.f k l0_0).bind fun t267 => ((laws_eqTree.f k t259 t267).bind fun t270 => (if t270 = true then ((laws_markTree.f k t259 1).bind fun bt271 => (if bt271.1 < 0 then (laws_FnExactChildren.j0 k a1 t256 t263 true l0_0) else ((laws_eqStringS.f k t263 t256).bind fun t273 => (laws_FnExactChildren.j0 k a1 t256 t263 (!t273) l0_0)))) else (some false)))) else (some false)) = some r := H
   have A14 := Aside0.mk A140
   clear A140
   by_cases c15 : t266 = true
   ·subst c15
    have H1 : ((laws_toTree.f k l0_0).bind fun t267 => ((laws_eqTree.f k t259 t267).bind fun t270 => (if t270 = true then ((laws_markTree.f k t259 1).bind fun bt271 => (if bt271.1 < 0 then (laws_FnExactChildren.j0 k a1 t256 t263 true l0_0) else ((laws_eqStringS.f k t263 t256).bind fun t273 => (laws_FnExactChildren.j0 k a1 t256 t263 (!t273) l0_0)))) else (some false)))) = some r := by rw [if_pos rfl] at H; exact H
    clear H
    have H := H1
    clear H1
    replace H := Option.bind_eq_some_iff.mp H
    obtain ⟨t267, A160, H⟩ := H
    replace H : ((laws_eqTree.f k t259 t267).bind fun t270 => (if t270 = true then ((laws_markTree.f k t259 1).bind fun bt271 => (if bt271.1 < 0 then (laws_FnExactChildren.j0 k a1 t256 t263 true l0_0) else ((laws_eqStringS.f k t263 t256).bind fun t273 => (laws_FnExactChildren.j0 k a1 t256 t263 (!t273) l0_0)))) else (some false))) = some r := H
    have A16 := Aside0.mk A160
    clear A160
    replace H := Option.bind_eq_some_iff.mp H
    obtain ⟨t270, A170, H⟩ := H
    replace H : (if t270 = true then ((laws_markTree.f k t259 1).bind fun bt271 => (if bt271.1 < 0 then (laws_FnExactChildren.j0 k a1 t256 t263 true l0_0) else ((laws_eqStringS.f k t263 t256).bind fun t273 => (laws_FnExactChildren.j0 k a1 t256 t263 (!t273) l0_0)))) else (some false)) = some r := H
    have A17 := Aside0.mk A170
    clear A170
    by_cases c18 : t270 = true
    ·subst c18
     have H1 : ((laws_markTree.f k t259 1).bind fun bt271 => (if bt271.1 < 0 then (laws_FnExactChildren.j0 k a1 t256 t263 true l0_0) else ((laws_eqStringS.f k t263 t256).bind fun t273 => (laws_FnExactChildren.j0 k a1 t256 t263 (!t273) l0_0)))) = some r := by rw [if_pos rfl] at H; exact H
     clear H
     have H := H1
     clear H1
     replace H := Option.bind_eq_some_iff.mp H
     obtain ⟨⟨t271, t272⟩, A190, H⟩ := H
     replace H : (if t271 < 0 then (laws_FnExactChildren.j0 k a1 t256 t263 true l0_0) else ((laws_eqStringS.f k t263 t256).bind fun t273 => (laws_FnExactChildren.j0 k a1 t256 t263 (!t273) l0_0))) = some r := H
     have A19 := Aside0.mk A190
     clear A190
     have HC20 := Aside0.mk H
     clear H
     go_enter Tryd.func5, Tryd.ntmps5
     try go_wp2_with (first | ((with_reducible refine zu (N := 2) rfl ?_); refine zs ?hg (N := 2) ?hd (cs := #[.slice A0_0 l0_0.length c0_0]) (t := 39) ?hr ?_; (case hd => rfl); (case hg => rfl); (case hr => first | (go_simp; done) | (go_simp; rfl)); intro zA hg w21 hbox hb; have n0_ := Aside0.mk (zi (by exact bl HB.out) hb); have n1_ := Aside0.mk (hbox); have n2_ := Aside0.mk ((by rw [hg]; exact (zh (by exact bl HB.out)) : w.heap.size ≤ zA)); have n3_ := Aside0.mk ((by rw [hg]; exact (zh (by exact bl HB.out)) : w.heap.size ≤ zA)); clear HB; have HB := n0_; have zx := n1_; have GW251 := n2_; have zJ := n3_; clear n0_ n1_ n2_ n3_; clear hb hbox hg; have zQ : w21.cell? ⟨zA, 0, none⟩ = some (.slice A0_0 l0_0.length c0_0) := (ze zx.out 0).trans rfl; have zR := zc zx.out 0) | ((with_reducible refine zk (f := 17) rfl ?_); refine zv (some 18) rfl rfl Tryd.func17 (by kernel_rfl) rfl #[.agg #[.slice A0_0 l0_0.length c0_0], .int .i64 1048576] rfl (by (try simp only [List.map_toArray, List.map_cons, List.map_nil]); first | done | rfl) ?_; (with_reducible refine (laws_szTree.calls k _ _ l0_0 1048576 t252 _ ?side1 ?side2 A5.out).mono ?_); (case side1 => repeat (first | exact (Kd.C_below HR0_0.out HB.out) | (with_reducible refine Kd.C_alloc ?_ _) | (with_reducible refine Kd.C_drewN ?_ _) | (with_reducible refine Kd.C_drew ?_))); (case side2 => exact HC0_0.out); rintro e w23 ⟨rfl, hb⟩; refine ⟨_, rfl, ?_⟩; have n0_ := Aside0.mk (zm (g := zA) (o := .cells #[.slice A0_0 l0_0.length c0_0] 39 (0, 0)) (BL zx.out) hb); have n1_ := Aside0.mk (zi (by exact bl HB.out) hb); clear zx; clear HB; have zx := n0_; have HB := n1_; clear n0_ n1_; (try clear hb); (try clear hb2); (try clear hk); (try clear hi); have zS : w23.cell? ⟨zA, 0, none⟩ = some (.slice A0_0 l0_0.length c0_0) := (ze zx.out 0).trans rfl; have zT := zc zx.out 0) | ((with_reducible refine zk (f := 19) rfl ?_); refine zv (some 22) rfl rfl Tryd.func19 (by kernel_rfl) rfl #[.agg #[.slice A0_0 l0_0.length c0_0]] rfl (by (try simp only [List.map_toArray, List.map_cons, List.map_nil]); first | done | rfl) ?_; (with_reducible refine (laws_toTree.calls k _ _ l0_0 t253 _ ?side1 ?side2 A10.out).mono ?_); (case side1 => repeat (first | exact (Kd.C_below HR0_0.out HB.out) | (with_reducible refine Kd.C_alloc ?_ _) | (with_reducible refine Kd.C_drewN ?_ _) | (with_reducible refine Kd.C_drew ?_))); (case side2 => exact HC0_0.out); rintro e w25 ⟨v254, rfl, zH, hb⟩; refine ⟨_, rfl, ?_⟩; have n0_ := Aside0.mk (Kd.R_lower zH (zh (by exact bl HB.out))); have n1_ := Aside0.mk (zm (g := zA) (o := .cells #[.slice A0_0 l0_0.length c0_0] 39 (0, 0)) (BL zx.out) hb); have n2_ := Aside0.mk (zi (by exact bl HB.out) hb); clear zx; clear HB; have zz := n0_; have zx := n1_; have HB := n2_; clear n0_ n1_ n2_; (try clear hb); (try clear hb2); (try clear hk); (try clear hi); (try clear zH); obtain ⟨Ao26, co26, eo26⟩ := Kd.R_slice zz.out; subst eo26) | ((with_reducible refine zk (f := 18) rfl ?_); refine zv (some 24) rfl rfl Tryd.func18 (by kernel_rfl) rfl #[.agg #[.slice Ao26 t253.length co26], .string a1] rfl (by (try simp only [List.map_toArray, List.map_cons, List.map_nil]); first | done | rfl) ?_; (with_reducible refine (spec_Children.calls k _ _ t253 a1 t256 _ ?side1 ?side2 A11.out).mono ?_); (case side1 => repeat (first | exact (Kd.R_reads' zz.out).2.2 | (with_reducible refine Kd.C_alloc ?_ _) | (with_reducible refine Kd.C_drewN ?_ _) | (with_reducible refine Kd.C_drew ?_))); (case side2 => exact (Kd.R_reads' zz.out).2.1); rintro e w27 ⟨v257, rfl, zH, hb⟩; refine ⟨_, rfl, ?_⟩; have n0_ := Aside0.mk (Kd.R_below (RL zz.out) hb); have n1_ := Aside0.mk (Kd.R_lower zH (zh (by exact bl HB.out))); have n2_ := Aside0.mk (zm (g := zA) (o := .cells #[.slice A0_0 l0_0.length c0_0] 39 (0, 0)) (BL zx.out) hb); have n3_ := Aside0.mk (zi (by exact bl HB.out) hb); clear zz; clear zx; clear HB; have zz := n0_; have zC := n1_; have zx := n2_; have HB := n3_; clear n0_ n1_ n2_ n3_; (try clear hb); (try clear hb2); (try clear hk); (try clear hi); (try clear zH); have zU : w27.cell? ⟨zA, 0, none⟩ = some (.slice A0_0 l0_0.length c0_0) := (ze zx.out 0).trans rfl; have zV := zc zx.out 0) | ((with_reducible refine zk (f := 19) rfl ?_); refine zv (some 26) rfl rfl Tryd.func19 (by kernel_rfl) rfl #[.agg #[.slice A0_0 l0_0.length c0_0]] rfl (by (try simp only [List.map_toArray, List.map_cons, List.map_nil]); first | done | rfl) ?_; (with_reducible refine (laws_toTree.calls k _ _ l0_0 t259 _ ?side1 ?side2 A12.out).mono ?_); (case side1 => repeat (first | exact (Kd.C_below HR0_0.out HB.out) | (with_reducible refine Kd.C_alloc ?_ _) | (with_reducible refine Kd.C_drewN ?_ _) | (with_reducible refine Kd.C_drew ?_))); (case side2 => exact HC0_0.out); rintro e w29 ⟨v260, rfl, zH, hb⟩; refine ⟨_, rfl, ?_⟩; have n0_ := Aside0.mk (Kd.R_elder' (RL zz.out) (Kd.R_base zH) hb); have n1_ := Aside0.mk (Kd.R_below (RL zC.out) hb); have n2_ := Aside0.mk (Kd.R_lower (Kd.R_new' zH (Kd.R_lt (RL zz.out))) (zh (by exact bl HB.out))); have n3_ := Aside0.mk (zm (g := zA) (o := .cells #[.slice A0_0 l0_0.length c0_0] 39 (0, 0)) (BL zx.out) hb); have n4_ := Aside0.mk (zi (by exact bl HB.out) hb); clear zz; clear zC; clear zx; clear HB; have zz := n0_; have zC := n1_; have zD := n2_; have zx := n3_; have HB := n4_; clear n0_ n1_ n2_ n3_ n4_; (try clear hb); (try clear hb2); (try clear hk); (try clear hi); (try clear zH)) | ((with_reducible refine zu (N := 7) rfl ?_); refine zs ?hg (N := 7) ?hd (cs := #[.slice none 0 0]) (t := 45) ?hr ?_; (case hd => rfl); (case hg => rfl); (case hr => first | (go_simp; done) | (go_simp; rfl)); intro zF hg w30 hbox hb; have n0_ := Aside0.mk (Kd.R_below (RL zz.out) hb); have n1_ := Aside0.mk (Kd.R_below (RL zC.out) hb); have n2_ := Aside0.mk (Kd.R_below (RL zD.out) hb); have n3_ := Aside0.mk (zm (g := zA) (o := .cells #[.slice A0_0 l0_0.length c0_0] 39 (0, 0)) (BL zx.out) hb); have n4_ := Aside0.mk (zi (by exact bl HB.out) hb); have n5_ := Aside0.mk (hbox); have n6_ := Aside0.mk ((by rw [hg]; exact (zh (by exact bl HB.out)) : w.heap.size ≤ zF)); have n7_ := Aside0.mk ((by rw [hg]; exact (zh (by exact bl HB.out)) : w.heap.size ≤ zF)); have n8_ := Aside0.mk ((by rw [hg]; exact Nat.ne_of_lt (blk_lt (g := zA) (o := .cells #[.slice A0_0 l0_0.length c0_0] 39 (0, 0)) (BL zx.out)) : zA ≠ zF)); have n9_ := Aside0.mk ((by rw [hg]; exact Nat.ne_of_gt (blk_lt (g := zA) (o := .cells #[.slice A0_0 l0_0.length c0_0] 39 (0, 0)) (BL zx.out)) : zF ≠ zA)); clear zz; clear zC; clear zD; clear zx; clear HB; have zz := n0_; have zC := n1_; have zD := n2_; have zx := n3_; have HB := n4_; have zy := n5_; have GW262 := n6_; have zK := n7_; have zL := n8_; have zN := n9_; clear n0_ n1_ n2_ n3_ n4_ n5_ n6_ n7_ n8_ n9_; clear hb hbox hg; obtain ⟨Ao31, co31, eo31⟩ := Kd.R_slice zD.out; subst eo31; have zyb := zN.out; have zzb := zL.out; have zW : w30.cell? ⟨zF, 0, none⟩ = some (.slice none 0 0) := (ze zy.out 0).trans rfl; have zX := zc zy.out 0) | ((with_reducible refine zk (f := 20) rfl ?_); have y0_ := Aside0.mk (Kd.R_mono (Kd.R_far (p := ⟨zF, 0, none⟩) (Kd.R_types zD.out zy.out (by decide)) (fun _ hk => hk.2) (.slice Ao31 t259.length co31)) (fun _ h_ => h_.1)); have y2_ := Aside0.mk (Kd.R_mono (Kd.R_far (p := ⟨zF, 0, none⟩) (Kd.R_types zC.out zy.out (by decide)) (fun _ hk => hk.2) (.slice Ao31 t259.length co31)) (fun _ h_ => h_.1)); refine zv (some 29) rfl rfl Tryd.func20 (by kernel_rfl) rfl #[.agg #[.slice Ao31 t259.length co31], .string a1] rfl (by (try simp only [List.map_toArray, List.map_cons, List.map_nil]); first | done | rfl) ?_; (with_reducible refine (impl_Children.calls k _ _ t259 a1 t263 _ ?side1 ?side2 A13.out ?globMAX_).mono ?_); (case globMAX_ => exact Go.Proofs.YtejecjjimggjeaaDoorH.GFMAX.below HGMAX_.out (by repeat (first | (with_reducible first | exact HB.out | exact Below.refl _ _ | apply zg | apply zd | apply zf | refine zj ?_ (Aside0.out (by assumption))) | exact HB.out))); (case side1 => refine (Kd.R_reads' (e := 53) (base := w.heap.size) (ok := fun k_ => (True ∧ some k_ ≠ (.slice Ao26 t253.length co26 : Value).ownBlock)) (n := t259.length) (c := co31) ?_).2.2; exact (RL y0_.out)); (case side2 => exact (Kd.R_reads' zD.out).2.1); rintro e w34 ⟨v264, rfl, zH, hb⟩; refine ⟨_, rfl, ?_⟩; have n0_ := Aside0.mk (Kd.R_below (RL ((Kd.R_mono (Kd.R_far (p := ⟨zF, 0, none⟩) (Kd.R_types zz.out zy.out (by decide)) (fun _ hk => hk.2) (.slice Ao31 t259.length co31)) (fun _ h_ => h_.1)))) hb); have n1_ := Aside0.mk (Kd.R_elder' (RL y2_.out) (Kd.R_base zH) hb); have n2_ := Aside0.mk (Kd.R_below (RL y0_.out) hb); have n3_ := Aside0.mk (Kd.R_lower (Kd.R_new' zH (Kd.R_lt (RL y2_.out))) (zh (by repeat (first | (with_reducible first | exact HB.out | apply zg | apply zd | apply zf | refine zj ?_ zJ.out | refine zj ?_ zK.out) | exact HB.out)))); have n4_ := Aside0.mk (zm (g := zA) (o := .cells #[.slice A0_0 l0_0.length c0_0] 39 (0, 0)) (by (with_reducible repeat (first | refine zn ?_ _ | refine zo ?_ | refine zl ?_ _)); refine blk_far ?_ zL.out _; (with_reducible repeat (first | refine zn ?_ _ | refine zo ?_ | refine zl ?_ _)); exact zx.out) hb); have n5_ := Aside0.mk (zm (g := zF) (o := .cells #[.slice Ao31 t259.length co31] 45 (0, 0)) (by (with_reducible repeat (first | refine zn ?_ _ | refine zo ?_ | refine zl ?_ _)); refine zw (cs := #[.slice none 0 0]) ?_ 0 _ rfl; (with_reducible repeat (first | refine zn ?_ _ | refine zo ?_ | refine zl ?_ _)); exact zy.out) hb); have n6_ := Aside0.mk (zi (by repeat (first | (with_reducible first | exact HB.out | apply zg | apply zd | apply zf | refine zj ?_ zJ.out | refine zj ?_ zK.out) | exact HB.out)) hb); clear zz; clear zC; clear zD; clear zx; clear zy; clear HB; have zz := n0_; have zC := n1_; have zD := n2_; have zG := n3_; have zx := n4_; have zy := n5_; have HB := n6_; clear n0_ n1_ n2_ n3_ n4_ n5_ n6_; (try clear hb); (try clear hb2); (try clear hk); (try clear hi); (try clear zH); obtain ⟨Ao35, co35, eo35⟩ := Kd.R_slice zG.out; subst eo35; obtain ⟨Ao36, co36, eo36⟩ := Kd.R_slice zC.out; subst eo36; (try clear y0_ y2_)) | ((with_reducible refine zk (f := 21) rfl ?_); refine zv (some 32) rfl rfl Tryd.func21 (by kernel_rfl) rfl #[.slice Ao35 t263.length co35, .slice Ao36 t256.length co36] rfl (by (try simp only [List.map_toArray, List.map_cons, List.map_nil]); first | done | rfl) ?_; (with_reducible refine (laws_eqStringS.calls k _ _ t263 _ _ t256 true _ ?side1 ?side2 ?side3 ?side4 A14.out).mono ?_); (case side1 => repeat (first | exact (Kd.R_reads' zG.out).2.2 | (with_reducible refine Kd.C_alloc ?_ _) | (with_reducible refine Kd.C_drewN ?_ _) | (with_reducible refine Kd.C_drew ?_))); (case side2 => exact (Kd.R_reads' zG.out).2.1); (case side3 => repeat (first | exact (Kd.R_reads' zC.out).2.2 | (with_reducible refine Kd.C_alloc ?_ _) | (with_reducible refine Kd.C_drewN ?_ _) | (with_reducible refine Kd.C_drew ?_))); (case side4 => exact (Kd.R_reads' zC.out).2.1); rintro e w' ⟨rfl, ⟨nd, rfl⟩⟩; refine ⟨_, rfl, ?_⟩))
     (try (rw [drewN_self w34]; generalize hq_ : World.drewN w34 _ = w34; have n0_ : Aside0 (Kd.R k53 53 w34 w.heap.size (fun k_ => some k_ ≠ (.slice Ao31 t259.length co31 : Value).ownBlock) (.slice Ao26 t253.length co26) t253) := ⟨by rw [← hq_]; exact (RL (Kd.R_mono zz.out (fun _ hk => hk.2)))⟩; have n1_ : Aside0 (Kd.R Kd.string 9 w34 w.heap.size (fun k_ => some k_ ≠ (.slice Ao35 t263.length co35 : Value).ownBlock) (.slice Ao36 t256.length co36) t256) := ⟨by rw [← hq_]; exact (RL (Kd.R_mono zC.out (fun _ hk => hk.2)))⟩; have n2_ : Aside0 (Kd.R k53 53 w34 w.heap.size (fun k_ => some k_ ≠ (.slice Ao26 t253.length co26 : Value).ownBlock) (.slice Ao31 t259.length co31) t259) := ⟨by rw [← hq_]; exact (RL (Kd.R_mono zD.out (fun _ hk => hk.2)))⟩; have n3_ : Aside0 (Kd.R Kd.string 9 w34 w.heap.size (fun k_ => some k_ ≠ (.slice Ao36 t256.length co36 : Value).ownBlock) (.slice Ao35 t263.length co35) t263) := ⟨by rw [← hq_]; exact (RL (Kd.R_mono zG.out (fun _ hk => hk.2)))⟩; have n4_ : Aside0 (w34.heap[zA]? = some (.cells #[.slice A0_0 l0_0.length c0_0] 39 (0, 0))) := ⟨by rw [← hq_]; exact (BL zx.out)⟩; have n5_ : Aside0 (w34.heap[zF]? = some (.cells #[.slice Ao31 t259.length co31] 45 (0, 0))) := ⟨by rw [← hq_]; exact (BL zy.out)⟩; have n6_ : Aside0 (Below w.heap.size w w34) := ⟨by rw [← hq_]; exact (by repeat (first | (with_reducible first | exact HB.out | apply zg | apply zd | apply zf | refine zj ?_ zJ.out | refine zj ?_ zK.out) | exact HB.out))⟩; clear zz zC zD zG zx zy HB hq_; have zz := n0_; have zC := n1_; have zD := n2_; have zG := n3_; have zx := n4_; have zy := n5_; have HB := n6_; clear n0_ n1_ n2_ n3_ n4_ n5_ n6_))
     have n0_ := Aside0.mk (Kd.R_drew zz.out)
     have n1_ := Aside0.mk (Kd.R_drew zC.out)
     have n2_ := Aside0.mk (Kd.R_drew zD.out)
     have n3_ := Aside0.mk (Kd.R_drew zG.out)
     have n4_ := Aside0.mk (zo zx.out)
     have n5_ := Aside0.mk (zo zy.out)
     have n6_ := Aside0.mk (zf HB.out)
     clear zz
     clear zC
     clear zD
     clear zG
     clear zx
     clear zy
     clear HB
     have zz := n0_
     have zC := n1_
     have zD := n2_
     have zG := n3_
     have zx := n4_
     have zy := n5_
     have HB := n6_
     clear n0_ n1_ n2_ n3_ n4_ n5_ n6_
     refine start_ (n := 5) (S := fun w' => w'.cell? ⟨zF, 0, none⟩ = some (.slice Ao31 t259.length co31) ∧ w'.cell? ⟨zA, 0, none⟩ = some (.slice A0_0 l0_0.length c0_0)) (ds := []) #[false, false, false, false, false] (by kernel_rfl) rfl rfl ⟨(ze zy.out 0).trans rfl, (ze zx.out 0).trans rfl⟩ (fun hHeld => ?_)
     generalize w34.drew = w37 at zz zC zD zG zx zy HB hHeld ⊢
     refine take_ (i := 0) (N := some 34) (v := ?_) (a' := ?_) #[true, false, false, false, false] rfl rfl (by kernel_rfl) (fun _ _ _ h => h) (Or.inl ⟨by rfl, ?_⟩) hHeld ?_ ?_
     rotate_left
     ·rintro w' ⟨s0, s1⟩
      go_simp
      with_reducible rfl
     rotate_left
     ·simp only [Act.put, List.setIfInBounds_toArray, List.set_cons_zero, List.set_cons_succ, zq, zr]
      rfl
     refine take_ (i := 1) (N := some 35) (v := ?_) (a' := ?_) #[true, true, false, false, false] rfl rfl (by kernel_rfl) (fun _ _ _ h => h) (Or.inl ⟨by rfl, ?_⟩) hHeld ?_ ?_
     rotate_left
     ·rintro w' ⟨s0, s1⟩
      go_simp
      with_reducible rfl
     rotate_left
     ·simp only [Act.put, List.setIfInBounds_toArray, List.set_cons_zero, List.set_cons_succ, zq, zr]
      rfl
     refine one_ (i := 2) (N := some 36) #[true, true, true, false, false] rfl rfl (by kernel_rfl) (by decide) (fun K hK => ?_)
     refine goes_ Tryd.func19 (by kernel_rfl) rfl #[.agg #[.slice A0_0 l0_0.length c0_0]] (by rfl) rfl rfl (by (try simp only [List.map_toArray, List.map_cons, List.map_nil]); first | done | rfl) ?_
     with_reducible refine (laws_toTree.calls k _ _ l0_0 t267 _ ?side1 ?side2 A16.out).mono ?_
     (case side1 => repeat (first | exact (Kd.C_below HR0_0.out HB.out) | (with_reducible refine Kd.C_alloc ?_ _) | (with_reducible refine Kd.C_drewN ?_ _) | (with_reducible refine Kd.C_drew ?_)))
     (case side2 => exact HC0_0.out)
     rintro e w38 ⟨v268, rfl, zH, hb⟩
     refine ⟨_, rfl, ?_⟩
     have n0_ := Aside0.mk (Kd.R_elder' (RL zz.out) (Kd.R_base zH) hb)
     have n1_ := Aside0.mk (Kd.R_below (RL zC.out) hb)
     have n2_ := Aside0.mk (Kd.R_elder' (RL zD.out) (Kd.R_base zH) hb)
     have n3_ := Aside0.mk (Kd.R_below (RL zG.out) hb)
     have n4_ := Aside0.mk (Kd.R_lower (Kd.R_new' (Kd.R_new' zH (Kd.R_lt (RL zz.out))) (Kd.R_lt (RL zD.out))) (zh (by repeat (first | (with_reducible first | exact HB.out | apply zg | apply zd | apply zf | refine zj ?_ zJ.out | refine zj ?_ zK.out) | exact HB.out))))
     have n5_ := Aside0.mk (zm (g := zA) (o := .cells #[.slice A0_0 l0_0.length c0_0] 39 (0, 0)) (BL zx.out) hb)
     have n6_ := Aside0.mk (zm (g := zF) (o := .cells #[.slice Ao31 t259.length co31] 45 (0, 0)) (BL zy.out) hb)
     have n7_ := Aside0.mk (zi (by repeat (first | (with_reducible first | exact HB.out | apply zg | apply zd | apply zf | refine zj ?_ zJ.out | refine zj ?_ zK.out) | exact HB.out)) hb)
     clear zz
     clear zC
     clear zD
     clear zG
     clear zx
     clear zy
     clear HB
     have zz := n0_
     have zC := n1_
     have zD := n2_
     have zG := n3_
     have zM := n4_
     have zx := n5_
     have zy := n6_
     have HB := n7_
     clear n0_ n1_ n2_ n3_ n4_ n5_ n6_ n7_
     (try clear hb)
     (try clear hb2)
     (try clear hk)
     (try clear hi)
     (try clear zH)
     obtain ⟨Ao39, co39, eo39⟩ := Kd.R_slice zM.out
     (first | subst eo39 | (injection eo39 with f1_ f2_ f3_; have f4_ := f1_.symm; have f5_ := f3_.symm; clear f1_ f2_ f3_; subst f4_; subst f5_))
     refine hK.out _ _ ⟨(ze zy.out 0).trans rfl, (ze zx.out 0).trans rfl⟩ (fun hHeld => ?_)
     clear hK K
     refine norm_ (a' := ?_) ?_ ?_
     rotate_left
     ·show Act.put _ (some 36) _ = _
      simp only [Act.put, List.setIfInBounds_toArray, List.set_cons_zero, List.set_cons_succ, zq, zr]
      rfl
     refine one_ (i := 3) (N := some 37) #[true, true, true, true, false] rfl rfl (by kernel_rfl) (by decide) (fun K hK => ?_)
     refine goes_ Tryd.func22 (by kernel_rfl) rfl #[.agg #[.slice Ao31 t259.length co31], .agg #[.slice Ao39 t267.length co39]] (by rfl) rfl rfl (by (try simp only [List.map_toArray, List.map_cons, List.map_nil]); first | done | rfl) ?_
     with_reducible refine (laws_eqTree.calls k _ _ t259 _ _ t267 true _ ?side1 ?side2 ?side3 ?side4 A17.out).mono ?_
     (case side1 => repeat (first | exact (Kd.R_reads' zD.out).2.2 | (with_reducible refine Kd.C_alloc ?_ _) | (with_reducible refine Kd.C_drewN ?_ _) | (with_reducible refine Kd.C_drew ?_)))
     (case side2 => exact (Kd.R_reads' zD.out).2.1)
     (case side3 => repeat (first | exact (Kd.R_reads' zM.out).2.2 | (with_reducible refine Kd.C_alloc ?_ _) | (with_reducible refine Kd.C_drewN ?_ _) | (with_reducible refine Kd.C_drew ?_)))
     (case side4 => exact (Kd.R_reads' zM.out).2.1)
     rintro e w40 ⟨rfl, hb⟩
     refine ⟨_, rfl, ?_⟩
     have n0_ := Aside0.mk (Kd.R_below (RL zz.out) hb)
     have n1_ := Aside0.mk (Kd.R_below (RL zC.out) hb)
     have n2_ := Aside0.mk (Kd.R_below (RL zD.out) hb)
     have n3_ := Aside0.mk (Kd.R_below (RL zG.out) hb)
     have n4_ := Aside0.mk (Kd.R_below (RL zM.out) hb)
     have n5_ := Aside0.mk (zm (g := zA) (o := .cells #[.slice A0_0 l0_0.length c0_0] 39 (0, 0)) (BL zx.out) hb)
     have n6_ := Aside0.mk (zm (g := zF) (o := .cells #[.slice Ao31 t259.length co31] 45 (0, 0)) (BL zy.out) hb)
     have n7_ := Aside0.mk (zi (by repeat (first | (with_reducible first | exact HB.out | apply zg | apply zd | apply zf | refine zj ?_ zJ.out | refine zj ?_ zK.out) | exact HB.out)) hb)
     clear zz
     clear zC
     clear zD
     clear zG
     clear zM
     clear zx
     clear zy
     clear HB
     have zz := n0_
     have zC := n1_
     have zD := n2_
     have zG := n3_
     have zM := n4_
     have zx := n5_
     have zy := n6_
     have HB := n7_
     clear n0_ n1_ n2_ n3_ n4_ n5_ n6_ n7_
     (try clear hb)
     (try clear hb2)
     (try clear hk)
     (try clear hi)
     refine hK.out _ _ ⟨(ze zy.out 0).trans rfl, (ze zx.out 0).trans rfl⟩ (fun hHeld => ?_)
     clear hK K
     refine norm_ (a' := ?_) ?_ ?_
     rotate_left
     ·show Act.put _ (some 37) _ = _
      simp only [Act.put, List.setIfInBounds_toArray, List.set_cons_zero, List.set_cons_succ, zq, zr]
      rfl
     refine zt (i := 4) (N := some 38) (v := ?_) (a' := ?_) #[true, true, true, true, true] rfl rfl (by kernel_rfl) (fun _ _ _ h => h) (Or.inl ⟨by rfl, ?_⟩) ?_ ?_
     rotate_left
     ·intro w'
      go_simp
      with_reducible rfl
     rotate_left
     ·simp only [Act.put, List.setIfInBounds_toArray, List.set_cons_zero, List.set_cons_succ, zq, zr]
      rfl
     refine done_ (by kernel_rfl) ?_
     have zY : w40.cell? ⟨zF, 0, none⟩ = some (.slice Ao31 t259.length co31) := (ze zy.out 0).trans rfl
     have zZ := zc zy.out 0
     go_upto_region 16 with (first | ((with_reducible refine zk (f := 23) rfl ?_); refine zv (some 41) rfl rfl Tryd.func23 (by kernel_rfl) rfl #[.agg #[.slice Ao31 t259.length co31], .int .i64 1] rfl (by (try simp only [List.map_toArray, List.map_cons, List.map_nil]); first | done | rfl) ?_; (with_reducible refine (laws_markTree.calls k (fun k_ => some k_ = (.slice Ao31 t259.length co31 : Value).ownBlock) (.slice Ao31 t259.length co31) t259 1 t271 t272 w _ ?side1 ?side2 A19.out).mono ?_); (case side1 => exact bl HB.out); (case side2 => exact Kd.R_tight rfl zD.out); rintro e w42 ⟨rfl, hy0, hb, hkp⟩; refine ⟨_, rfl, ?_⟩; have n0_ := Aside0.mk (blk_kept (BL zx.out) hkp (fun hs_ => (fun e_ => (Kd.R_ne zD.out zx.out (by decide)) e_) hs_)); have n1_ := Aside0.mk (Kd.R_mono (ok' := fun k_ => some k_ ≠ (.slice Ao31 t259.length co31 : Value).ownBlock ∧ some k_ ≠ (.slice Ao39 t267.length co39 : Value).ownBlock) (Kd.R_keptB (zz.out) hkp (fun k_ hk_ hs_ => by first | exact (hk_.1.2) hs_ | exact hk_.1 hs_ | exact hk_.2 hs_ | exact hk_.1.1 hs_ | exact hk_.1.2 hs_ | exact hk_.2.1 hs_ | exact hk_.2.2 hs_)) (fun k_ hk_ => by first | exact ⟨hk_.1.1.2, hk_.1.2⟩ | exact hk_.1 | exact ⟨hk_.1.1, hk_.1.2⟩ | exact ⟨hk_.1.2, hk_.1.1⟩ | exact hk_.1.1 | exact hk_.1.2)); have n2_ := Aside0.mk (Kd.R_mono (ok' := fun k_ => some k_ ≠ (.slice Ao35 t263.length co35 : Value).ownBlock) (Kd.R_keptB ((Kd.R_apart' zC.out (Kd.R_typed zD.out) (by decide))) hkp (fun k_ hk_ hs_ => by first | exact (hk_.2) hs_ | exact hk_.1 hs_ | exact hk_.2 hs_ | exact hk_.1.1 hs_ | exact hk_.1.2 hs_ | exact hk_.2.1 hs_ | exact hk_.2.2 hs_)) (fun k_ hk_ => by first | exact hk_.1.1.2 | exact hk_.1 | exact ⟨hk_.1.1, hk_.1.2⟩ | exact ⟨hk_.1.2, hk_.1.1⟩ | exact hk_.1.1 | exact hk_.1.2)); have n3_ := Aside0.mk (Kd.R_reok rfl hy0 (fun k_ e_ => zD.out.1 k_ e_)); have n4_ := Aside0.mk (blk_kept (BL zy.out) hkp (fun hs_ => (fun e_ => (Kd.R_ne zD.out zy.out (by decide)) e_) hs_)); have n5_ := Aside0.mk (Kd.R_mono (ok' := fun k_ => some k_ ≠ (.slice Ao36 t256.length co36 : Value).ownBlock) (Kd.R_keptB ((Kd.R_apart' zG.out (Kd.R_typed zD.out) (by decide))) hkp (fun k_ hk_ hs_ => by first | exact (hk_.2) hs_ | exact hk_.1 hs_ | exact hk_.2 hs_ | exact hk_.1.1 hs_ | exact hk_.1.2 hs_ | exact hk_.2.1 hs_ | exact hk_.2.2 hs_)) (fun k_ hk_ => by first | exact hk_.1.1.2 | exact hk_.1 | exact ⟨hk_.1.1, hk_.1.2⟩ | exact ⟨hk_.1.2, hk_.1.1⟩ | exact hk_.1.1 | exact hk_.1.2)); have n6_ := Aside0.mk (Kd.R_mono (ok' := fun k_ => some k_ ≠ (.slice Ao26 t253.length co26 : Value).ownBlock ∧ some k_ ≠ (.slice Ao31 t259.length co31 : Value).ownBlock) (Kd.R_keptB (zM.out) hkp (fun k_ hk_ hs_ => by first | exact (hk_.2) hs_ | exact hk_.1 hs_ | exact hk_.2 hs_ | exact hk_.1.1 hs_ | exact hk_.1.2 hs_ | exact hk_.2.1 hs_ | exact hk_.2.2 hs_)) (fun k_ hk_ => by first | exact ⟨hk_.1.1.2, hk_.1.2⟩ | exact hk_.1 | exact ⟨hk_.1.1, hk_.1.2⟩ | exact ⟨hk_.1.2, hk_.1.1⟩ | exact hk_.1.1 | exact hk_.1.2)); have n7_ := Aside0.mk (hb); clear zx; clear zz; clear zC; clear zD; clear zy; clear zG; clear zM; clear HB; have zx := n0_; have zz := n1_; have zC := n2_; have zD := n3_; have zy := n4_; have zG := n5_; have zM := n6_; have HB := n7_; clear n0_ n1_ n2_ n3_ n4_ n5_ n6_ n7_; (try clear hb); (try clear hkp); (try clear hy0)))
     (try simp only [Act.put, List.setIfInBounds_toArray, List.set_cons_zero, List.set_cons_succ])
     go_cut [49] (fun v49 wc => ∃ (kq : Nat) (x49_19 : Bool), v49 = .bool x49_19 ∧ Aside0 (laws_FnExactChildren.j0 kq a1 t256 t263 x49_19 l0_0 = some r) ∧ Aside0 (kq ≤ k) ∧ Aside0 (Kd.R Kd.string 9 wc w.heap.size (fun k_ => some k_ ≠ ((.slice Ao35 t263.length co35) : Value).ownBlock) (.slice Ao36 t256.length co36) t256) ∧ Aside0 (Kd.R Kd.string 9 wc w.heap.size (fun k_ => some k_ ≠ ((.slice Ao36 t256.length co36) : Value).ownBlock) (.slice Ao35 t263.length co35) t263) ∧ Aside0 (Kd.R k53 53 wc w.heap.size (fun _ => True) (.slice Ao31 t259.length co31) t272) ∧ Aside0 (wc.heap[zA]? = some (.cells #[(.slice A0_0 l0_0.length c0_0)] 39 (0, 0))) ∧ Aside0 (wc.heap[zF]? = some (.cells #[(.slice Ao31 t259.length co31)] 45 (0, 0))) ∧ Aside0 (Below w.heap.size w wc))
     case first =>
      have H := HC20.out
      clear HC20
      by_cases c43 : t271 < 0
      ·rw [if_pos c43] at H
       have c43b0 : decide (t271 < 0) = true := decide_eq_true c43
       clear c43
       (first | rw [c43b0] | (simp only [zq, zr]; rw [c43b0]) | skip)
       have H' := Aside0.mk H
       clear H
       go_wp2
       go_meet
       case rel => exact ⟨_, (true), (by first | rfl | (simp; done) | (simp [*]; done)), H', ⟨by first | omega | exact Nat.le_refl _⟩, ⟨RL zC.out⟩, ⟨RL zG.out⟩, ⟨RL (Kd.R_mono zD.out (fun _ hk => trivial))⟩, ⟨BL zx.out⟩, ⟨BL zy.out⟩, ⟨by repeat (first | (with_reducible first | exact HB.out | apply zg | apply zd | apply zf | refine zj ?_ zJ.out | refine zj ?_ zK.out) | exact HB.out)⟩⟩
      ·rw [if_neg c43] at H
       have c43b0 : decide (t271 < 0) = false := decide_eq_false c43
       clear c43
       (first | rw [c43b0] | (simp only [zq, zr]; rw [c43b0]) | skip)
       replace H := Option.bind_eq_some_iff.mp H
       obtain ⟨t273, A440, H⟩ := H
       replace H : (laws_FnExactChildren.j0 k a1 t256 t263 (!t273) l0_0) = some r := H
       have A44 := Aside0.mk A440
       clear A440
       have H' := Aside0.mk H
       clear H
       go_wp2_with (first | (go_at_call 21; (with_reducible refine (laws_eqStringS.calls k _ _ t263 _ _ t256 t273 _ ?side1 ?side2 ?side3 ?side4 A44.out).mono ?_); (case side1 => repeat (first | exact (Kd.R_reads' zG.out).2.2 | (with_reducible refine Kd.C_alloc ?_ _) | (with_reducible refine Kd.C_drewN ?_ _) | (with_reducible refine Kd.C_drew ?_))); (case side2 => exact (Kd.R_reads' zG.out).2.1); (case side3 => repeat (first | exact (Kd.R_reads' zC.out).2.2 | (with_reducible refine Kd.C_alloc ?_ _) | (with_reducible refine Kd.C_drewN ?_ _) | (with_reducible refine Kd.C_drew ?_))); (case side4 => exact (Kd.R_reads' zC.out).2.1); rintro e w' ⟨rfl, ⟨nd, rfl⟩⟩))
       go_meet
       case rel => exact ⟨_, (!t273), (by first | rfl | (simp; done) | (simp [*]; done)), H', ⟨by first | omega | exact Nat.le_refl _⟩, ⟨RL zC.out⟩, ⟨RL zG.out⟩, ⟨RL (Kd.R_mono zD.out (fun _ hk => trivial))⟩, ⟨BL zx.out⟩, ⟨BL zy.out⟩, ⟨by repeat (first | (with_reducible first | exact HB.out | apply zg | apply zd | apply zf | refine zj ?_ zJ.out | refine zj ?_ zK.out) | exact HB.out)⟩⟩
     case rest =>
      clear HC20
      try clear c1
      try clear c2
      try clear p2
      try clear c3
      try clear c3b0
      try clear c3b1
      try clear c4
      try clear c5
      try clear c6
      try clear c6b0
      try clear c15
      try clear c17
      try clear c18
      try clear c19
      try clear c20
      try clear c21
      try clear c22
      try clear c23
      try clear c32
      try clear c43
      try clear c43b0
      try clear zQ
      try clear zS
      try clear zU
      try clear zW
      try clear zY
      try clear zab
      try clear zR
      try clear zT
      try clear zV
      try clear zX
      try clear zZ
      try clear zbb
      obtain ⟨kq, x49_19, rfl, HA, HJ19, zI, zE, zB, zx, zy, HB⟩ := hcut
      have hl263000_19 := (Kd.R_reads' zB.out).1
      rw [hl263000_19] at zB
      (try simp only [hl263000_19])
      (try simp only [hl263000_19] at zx)
      (try simp only [hl263000_19] at zy)
      (try simp only [hl263000_19] at zI)
      (try simp only [hl263000_19] at zE)
      cases kq with
      | zero => exact absurd HA.out (by simp [laws_FnExactChildren.j0])
      | succ kj19 =>
       have H := HA.out
       clear HA
       simp only [laws_FnExactChildren.j0] at H
       by_cases c45 : x49_19 = true
       ·subst c45
        have H1 : (some false) = some r := by rw [if_pos rfl] at H; exact H
        clear H
        have H := H1
        clear H1
        obtain rfl := Option.some.inj H
        go_wp2
        go_ret
        exact ⟨by first | rfl | (simp [errW_none, errW_some] <;> rfl) | (simp [*, errW_none, errW_some] <;> rfl), by repeat (first | (with_reducible first | exact HB.out | apply zg | apply zd | apply zf | refine zj ?_ zJ.out | refine zj ?_ zK.out) | exact HB.out)⟩
       ·replace c45 := Bool.eq_false_iff.mpr c45
        subst c45
        have H1 : ((laws_markStringS.f kj19 t263 1).bind fun bt274 => ((laws_heldStringS.f kj19 bt274.2 1).bind fun t276 => (if t276 < 0 then (some false) else (if t276 = bt274.1 then ((laws_toTree.f kj19 l0_0).bind fun t277 => ((impl_Children.f kj19 t277 a1).bind fun t280 => ((laws_eqStringS.f kj19 t280 t256).bind fun t283 => (if t283 = true then (some true) else (some false))))) else (some false))))) = some r := by rw [if_neg (show ¬ (false = true) by decide)] at H; exact H
        clear H
        have H := H1
        clear H1
        replace H := Option.bind_eq_some_iff.mp H
        obtain ⟨⟨t274, t275⟩, A460, H⟩ := H
        replace H : ((laws_heldStringS.f kj19 t275 1).bind fun t276 => (if t276 < 0 then (some false) else (if t276 = t274 then ((laws_toTree.f kj19 l0_0).bind fun t277 => ((impl_Children.f kj19 t277 a1).bind fun t280 => ((laws_eqStringS.f kj19 t280 t256).bind fun t283 => (if t283 = true then (some true) else (some false))))) else (some false)))) = some r := H
        have A46 := Aside0.mk A460
        clear A460
        replace H := Option.bind_eq_some_iff.mp H
        obtain ⟨t276, A470, H⟩ := H
        replace H : (if t276 < 0 then (some false) else (if t276 = t274 then ((laws_toTree.f kj19 l0_0).bind fun t277 => ((impl_Children.f kj19 t277 a1).bind fun t280 => ((laws_eqStringS.f kj19 t280 t256).bind fun t283 => (if t283 = true then (some true) else (some false))))) else (some false))) = some r := H
        have A47 := Aside0.mk A470
        clear A470
        by_cases c48 : t276 < 0
        ·rw [if_pos c48] at H
         have c48b0 : decide (t276 < 0) = true := decide_eq_true c48
         clear c48
         obtain rfl := Option.some.inj H
         go_wp2_with (first | ((with_reducible refine zk (f := 24) rfl ?_); refine zv (some 52) rfl rfl Tryd.func24 (by kernel_rfl) rfl #[.slice Ao35 t263.length co35, .int .i64 1] rfl (by (try simp only [List.map_toArray, List.map_cons, List.map_nil]); first | done | rfl) ?_; (with_reducible refine (laws_markStringS.calls kj19 (fun k_ => some k_ = (.slice Ao35 t263.length co35 : Value).ownBlock) (.slice Ao35 t263.length co35) t263 1 t274 t275 w _ ?side1 ?side2 A46.out).mono ?_); (case side1 => exact bl HB.out); (case side2 => exact Kd.R_tight rfl zE.out); rintro e w49 ⟨rfl, hy0, hb, hkp⟩; refine ⟨_, rfl, ?_⟩; have n0_ := Aside0.mk (Kd.R_mono (ok' := fun k_ => some k_ ≠ (.slice Ao35 t263.length co35 : Value).ownBlock) (Kd.R_keptB (zI.out) hkp (fun k_ hk_ hs_ => by first | exact (hk_) hs_ | exact hk_.1 hs_ | exact hk_.2 hs_ | exact hk_.1.1 hs_ | exact hk_.1.2 hs_ | exact hk_.2.1 hs_ | exact hk_.2.2 hs_)) (fun k_ hk_ => by first | exact hk_.1 | exact hk_.1 | exact ⟨hk_.1.1, hk_.1.2⟩ | exact ⟨hk_.1.2, hk_.1.1⟩ | exact hk_.1.1 | exact hk_.1.2)); have n1_ := Aside0.mk (Kd.R_reok rfl hy0 (fun k_ e_ => zE.out.1 k_ e_)); have n2_ := Aside0.mk (Kd.R_mono (ok' := fun k_ => True) (Kd.R_keptB ((Kd.R_apart' zB.out (Kd.R_typed zE.out) (by decide))) hkp (fun k_ hk_ hs_ => (hk_.2) hs_)) (fun k_ hk_ => trivial)); have n3_ := Aside0.mk (blk_kept (BL zx.out) hkp (fun hs_ => (fun e_ => (Kd.R_ne zE.out zx.out (by decide)) e_) hs_)); have n4_ := Aside0.mk (blk_kept (BL zy.out) hkp (fun hs_ => (fun e_ => (Kd.R_ne zE.out zy.out (by decide)) e_) hs_)); have n5_ := Aside0.mk (hb); clear zI; clear zE; clear zB; clear zx; clear zy; clear HB; have zI := n0_; have zE := n1_; have zB := n2_; have zx := n3_; have zy := n4_; have HB := n5_; clear n0_ n1_ n2_ n3_ n4_ n5_; (try clear hb); (try clear hkp); (try clear hy0)) | ((with_reducible refine zk (f := 25) rfl ?_); refine zv (some 55) rfl rfl Tryd.func25 (by kernel_rfl) rfl #[.slice Ao35 t275.length co35, .int .i64 1] rfl (by (try simp only [List.map_toArray, List.map_cons, List.map_nil]); first | done | (rw [show t275.length = t263.length from (Kd.R_reads' zE.out).1.symm] <;> rfl) | rfl | (simp only [List.length_drop, List.length_take]; rfl)) ?_; (with_reducible refine (laws_heldStringS.calls kj19 _ _ t275 1 t276 _ ?side1 ?side2 A47.out).mono ?_); (case side1 => repeat (first | exact (Kd.R_reads' zE.out).2.2 | (with_reducible refine Kd.C_alloc ?_ _) | (with_reducible refine Kd.C_drewN ?_ _) | (with_reducible refine Kd.C_drew ?_))); (case side2 => rw [show t275.length = t263.length from (Kd.R_reads' zE.out).1.symm]; exact (Kd.R_reads' zE.out).2.1); rintro e w50 ⟨rfl, hb⟩; refine ⟨_, rfl, ?_⟩; have n0_ := Aside0.mk (Kd.R_below (RL zI.out) hb); have n1_ := Aside0.mk (Kd.R_below (RL zE.out) hb); have n2_ := Aside0.mk (Kd.R_below (RL zB.out) hb); have n3_ := Aside0.mk (zm (g := zA) (o := .cells #[.slice A0_0 l0_0.length c0_0] 39 (0, 0)) (BL zx.out) hb); have n4_ := Aside0.mk (zm (g := zF) (o := .cells #[.slice Ao31 t272.length co31] 45 (0, 0)) (BL zy.out) hb); have n5_ := Aside0.mk (zi (by exact bl HB.out) hb); clear zI; clear zE; clear zB; clear zx; clear zy; clear HB; have zI := n0_; have zE := n1_; have zB := n2_; have zx := n3_; have zy := n4_; have HB := n5_; clear n0_ n1_ n2_ n3_ n4_ n5_; (try clear hb); (try clear hb2); (try clear hk); (try clear hi)))
         go_ret
         exact ⟨by first | rfl | (simp [errW_none, errW_some] <;> rfl) | (simp [*, errW_none, errW_some] <;> rfl), by repeat (first | (with_reducible first | exact HB.out | apply zg | apply zd | apply zf | refine zj ?_ zJ.out | refine zj ?_ zK.out) | exact HB.out)⟩
        ·rw [if_neg c48] at H
         have c48b0 : decide (t276 < 0) = false := decide_eq_false c48
         clear c48
         by_cases c51 : t276 = t274
         ·rw [if_pos c51] at H
          have c51b0 : (t276 == t274) = true := beq_iff_eq.mpr c51
          have c51b1 : (t276 != t274) = false := bne_eq_false_iff_eq.mpr c51
          clear c51
          replace H := Option.bind_eq_some_iff.mp H
          obtain ⟨t277, A520, H⟩ := H
          replace H : ((impl_Children.f kj19 t277 a1).bind fun t280 => ((laws_eqStringS.f kj19 t280 t256).bind fun t283 => (if t283 = true then (some true) else (some false)))) = some r := H
          have A52 := Aside0.mk A520
          clear A520
          replace H := Option.bind_eq_some_iff.mp H
          obtain ⟨t280, A530, H⟩ := H
          replace H : ((laws_eqStringS.f kj19 t280 t256).bind fun t283 => (if t283 = true then (some true) else (some false))) = some r := H
          have A53 := Aside0.mk A530
          clear A530
          replace H := Option.bind_eq_some_iff.mp H
          obtain ⟨t283, A540, H⟩ := H
          replace H : (if t283 = true then (some true) else (some false)) = some r := H
          have A54 := Aside0.mk A540
          clear A540
          by_cases c55 : t283 = true
          ·subst c55
           have H1 : (some true) = some r := by rw [if_pos rfl] at H; exact H
           clear H
           have H := H1
           clear H1
           obtain rfl := Option.some.inj H
           go_wp2_with (first | ((with_reducible refine zk (f := 24) rfl ?_); refine zv (some 52) rfl rfl Tryd.func24 (by kernel_rfl) rfl #[.slice Ao35 t263.length co35, .int .i64 1] rfl (by (try simp only [List.map_toArray, List.map_cons, List.map_nil]); first | done | rfl) ?_; (with_reducible refine (laws_markStringS.calls kj19 (fun k_ => some k_ = (.slice Ao35 t263.length co35 : Value).ownBlock) (.slice Ao35 t263.length co35) t263 1 t274 t275 w _ ?side1 ?side2 A46.out).mono ?_); (case side1 => exact bl HB.out); (case side2 => exact Kd.R_tight rfl zE.out); rintro e w56 ⟨rfl, hy0, hb, hkp⟩; refine ⟨_, rfl, ?_⟩; have n0_ := Aside0.mk (Kd.R_mono (ok' := fun k_ => some k_ ≠ (.slice Ao35 t263.length co35 : Value).ownBlock) (Kd.R_keptB (zI.out) hkp (fun k_ hk_ hs_ => by first | exact (hk_) hs_ | exact hk_.1 hs_ | exact hk_.2 hs_ | exact hk_.1.1 hs_ | exact hk_.1.2 hs_ | exact hk_.2.1 hs_ | exact hk_.2.2 hs_)) (fun k_ hk_ => by first | exact hk_.1 | exact hk_.1 | exact ⟨hk_.1.1, hk_.1.2⟩ | exact ⟨hk_.1.2, hk_.1.1⟩ | exact hk_.1.1 | exact hk_.1.2)); have n1_ := Aside0.mk (Kd.R_reok rfl hy0 (fun k_ e_ => zE.out.1 k_ e_)); have n2_ := Aside0.mk (Kd.R_mono (ok' := fun k_ => True) (Kd.R_keptB ((Kd.R_apart' zB.out (Kd.R_typed zE.out) (by decide))) hkp (fun k_ hk_ hs_ => (hk_.2) hs_)) (fun k_ hk_ => trivial)); have n3_ := Aside0.mk (blk_kept (BL zx.out) hkp (fun hs_ => (fun e_ => (Kd.R_ne zE.out zx.out (by decide)) e_) hs_)); have n4_ := Aside0.mk (blk_kept (BL zy.out) hkp (fun hs_ => (fun e_ => (Kd.R_ne zE.out zy.out (by decide)) e_) hs_)); have n5_ := Aside0.mk (hb); clear zI; clear zE; clear zB; clear zx; clear zy; clear HB; have zI := n0_; have zE := n1_; have zB := n2_; have zx := n3_; have zy := n4_; have HB := n5_; clear n0_ n1_ n2_ n3_ n4_ n5_; (try clear hb); (try clear hkp); (try clear hy0)) | ((with_reducible refine zk (f := 25) rfl ?_); refine zv (some 55) rfl rfl Tryd.func25 (by kernel_rfl) rfl #[.slice Ao35 t275.length co35, .int .i64 1] rfl (by (try simp only [List.map_toArray, List.map_cons, List.map_nil]); first | done | (rw [show t275.length = t263.length from (Kd.R_reads' zE.out).1.symm] <;> rfl) | rfl | (simp only [List.length_drop, List.length_take]; rfl)) ?_; (with_reducible refine (laws_heldStringS.calls kj19 _ _ t275 1 t276 _ ?side1 ?side2 A47.out).mono ?_); (case side1 => repeat (first | exact (Kd.R_reads' zE.out).2.2 | (with_reducible refine Kd.C_alloc ?_ _) | (with_reducible refine Kd.C_drewN ?_ _) | (with_reducible refine Kd.C_drew ?_))); (case side2 => rw [show t275.length = t263.length from (Kd.R_reads' zE.out).1.symm]; exact (Kd.R_reads' zE.out).2.1); rintro e w57 ⟨rfl, hb⟩; refine ⟨_, rfl, ?_⟩; have n0_ := Aside0.mk (Kd.R_below (RL zI.out) hb); have n1_ := Aside0.mk (Kd.R_below (RL zE.out) hb); have n2_ := Aside0.mk (Kd.R_below (RL zB.out) hb); have n3_ := Aside0.mk (zm (g := zA) (o := .cells #[.slice A0_0 l0_0.length c0_0] 39 (0, 0)) (BL zx.out) hb); have n4_ := Aside0.mk (zm (g := zF) (o := .cells #[.slice Ao31 t272.length co31] 45 (0, 0)) (BL zy.out) hb); have n5_ := Aside0.mk (zi (by exact bl HB.out) hb); clear zI; clear zE; clear zB; clear zx; clear zy; clear HB; have zI := n0_; have zE := n1_; have zB := n2_; have zx := n3_; have zy := n4_; have HB := n5_; clear n0_ n1_ n2_ n3_ n4_ n5_; (try clear hb); (try clear hb2); (try clear hk); (try clear hi); have zAb := zL.out; have zBb := zN.out; have zgb : w57.cell? ⟨zA, 0, none⟩ = some (.slice A0_0 l0_0.length c0_0) := (ze zx.out 0).trans rfl; have zhb := zc zx.out 0) | ((with_reducible refine zk (f := 19) rfl ?_); refine zv (some 62) rfl rfl Tryd.func19 (by kernel_rfl) rfl #[.agg #[.slice A0_0 l0_0.length c0_0]] rfl (by (try simp only [List.map_toArray, List.map_cons, List.map_nil]); first | done | rfl) ?_; (with_reducible refine (laws_toTree.calls kj19 _ _ l0_0 t277 _ ?side1 ?side2 A52.out).mono ?_); (case side1 => repeat (first | exact (Kd.C_below HR0_0.out HB.out) | (with_reducible refine Kd.C_alloc ?_ _) | (with_reducible refine Kd.C_drewN ?_ _) | (with_reducible refine Kd.C_drew ?_))); (case side2 => exact HC0_0.out); rintro e w60 ⟨v278, rfl, zH, hb⟩; refine ⟨_, rfl, ?_⟩; have n0_ := Aside0.mk (Kd.R_below (RL zI.out) hb); have n1_ := Aside0.mk (Kd.R_below (RL zE.out) hb); have n2_ := Aside0.mk (Kd.R_elder' (RL zB.out) (Kd.R_base zH) hb); have n3_ := Aside0.mk (Kd.R_lower (Kd.R_new' zH (Kd.R_lt (RL zB.out))) (zh (by exact bl HB.out))); have n4_ := Aside0.mk (zm (g := zA) (o := .cells #[.slice A0_0 l0_0.length c0_0] 39 (0, 0)) (BL zx.out) hb); have n5_ := Aside0.mk (zm (g := zF) (o := .cells #[.slice Ao31 t272.length co31] 45 (0, 0)) (BL zy.out) hb); have n6_ := Aside0.mk (zi (by exact bl HB.out) hb); clear zI; clear zE; clear zB; clear zx; clear zy; clear HB; have zI := n0_; have zE := n1_; have zB := n2_; have zO := n3_; have zx := n4_; have zy := n5_; have HB := n6_; clear n0_ n1_ n2_ n3_ n4_ n5_ n6_; (try clear hb); (try clear hb2); (try clear hk); (try clear hi); (try clear zH); obtain ⟨Ao61, co61, eo61⟩ := Kd.R_slice zO.out; subst eo61) | ((with_reducible refine zk (f := 20) rfl ?_); refine zv (some 64) rfl rfl Tryd.func20 (by kernel_rfl) rfl #[.agg #[.slice Ao61 t277.length co61], .string a1] rfl (by (try simp only [List.map_toArray, List.map_cons, List.map_nil]); first | done | rfl) ?_; (with_reducible refine (impl_Children.calls kj19 _ _ t277 a1 t280 _ ?side1 ?side2 A53.out ?globMAX_).mono ?_); (case globMAX_ => exact Go.Proofs.YtejecjjimggjeaaDoorH.GFMAX.below HGMAX_.out (by repeat (first | (with_reducible first | exact HB.out | exact Below.refl _ _ | apply zg | apply zd | apply zf | refine zj ?_ (Aside0.out (by assumption))) | exact HB.out))); (case side1 => repeat (first | exact (Kd.R_reads' zO.out).2.2 | (with_reducible refine Kd.C_alloc ?_ _) | (with_reducible refine Kd.C_drewN ?_ _) | (with_reducible refine Kd.C_drew ?_))); (case side2 => exact (Kd.R_reads' zO.out).2.1); rintro e w62 ⟨v281, rfl, zH, hb⟩; refine ⟨_, rfl, ?_⟩; have n0_ := Aside0.mk (Kd.R_elder' (RL zI.out) (Kd.R_base zH) hb); have n1_ := Aside0.mk (Kd.R_elder' (RL zE.out) (Kd.R_base zH) hb); have n2_ := Aside0.mk (Kd.R_below (RL zB.out) hb); have n3_ := Aside0.mk (Kd.R_below (RL zO.out) hb); have n4_ := Aside0.mk (Kd.R_lower (Kd.R_new' (Kd.R_new' zH (Kd.R_lt (RL zI.out))) (Kd.R_lt (RL zE.out))) (zh (by exact bl HB.out))); have n5_ := Aside0.mk (zm (g := zA) (o := .cells #[.slice A0_0 l0_0.length c0_0] 39 (0, 0)) (BL zx.out) hb); have n6_ := Aside0.mk (zm (g := zF) (o := .cells #[.slice Ao31 t272.length co31] 45 (0, 0)) (BL zy.out) hb); have n7_ := Aside0.mk (zi (by exact bl HB.out) hb); clear zI; clear zE; clear zB; clear zO; clear zx; clear zy; clear HB; have zI := n0_; have zE := n1_; have zB := n2_; have zO := n3_; have zP := n4_; have zx := n5_; have zy := n6_; have HB := n7_; clear n0_ n1_ n2_ n3_ n4_ n5_ n6_ n7_; (try clear hb); (try clear hb2); (try clear hk); (try clear hi); (try clear zH); obtain ⟨Ao63, co63, eo63⟩ := Kd.R_slice zP.out; subst eo63) | ((with_reducible refine zk (f := 21) rfl ?_); refine zv (some 67) rfl rfl Tryd.func21 (by kernel_rfl) rfl #[.slice Ao63 t280.length co63, .slice Ao36 t256.length co36] rfl (by (try simp only [List.map_toArray, List.map_cons, List.map_nil]); first | done | rfl) ?_; (with_reducible refine (laws_eqStringS.calls kj19 _ _ t280 _ _ t256 true _ ?side1 ?side2 ?side3 ?side4 A54.out).mono ?_); (case side1 => repeat (first | exact (Kd.R_reads' zP.out).2.2 | (with_reducible refine Kd.C_alloc ?_ _) | (with_reducible refine Kd.C_drewN ?_ _) | (with_reducible refine Kd.C_drew ?_))); (case side2 => exact (Kd.R_reads' zP.out).2.1); (case side3 => repeat (first | exact (Kd.R_reads' zI.out).2.2 | (with_reducible refine Kd.C_alloc ?_ _) | (with_reducible refine Kd.C_drewN ?_ _) | (with_reducible refine Kd.C_drew ?_))); (case side4 => exact (Kd.R_reads' zI.out).2.1); rintro e w' ⟨rfl, ⟨nd, rfl⟩⟩; refine ⟨_, rfl, ?_⟩))
           go_ret
           exact ⟨by first | rfl | (simp [errW_none, errW_some] <;> rfl) | (simp [*, errW_none, errW_some] <;> rfl), by repeat (first | (with_reducible first | exact HB.out | apply zg | apply zd | apply zf | refine zj ?_ zJ.out | refine zj ?_ zK.out) | exact HB.out)⟩
          ·replace c55 := Bool.eq_false_iff.mpr c55
           subst c55
           have H1 : (some false) = some r := by rw [if_neg (show ¬ (false = true) by decide)] at H; exact H
           clear H
           have H := H1
           clear H1
           obtain rfl := Option.some.inj H
           go_wp2_with (first | ((with_reducible refine zk (f := 24) rfl ?_); refine zv (some 52) rfl rfl Tryd.func24 (by kernel_rfl) rfl #[.slice Ao35 t263.length co35, .int .i64 1] rfl (by (try simp only [List.map_toArray, List.map_cons, List.map_nil]); first | done | rfl) ?_; (with_reducible refine (laws_markStringS.calls kj19 (fun k_ => some k_ = (.slice Ao35 t263.length co35 : Value).ownBlock) (.slice Ao35 t263.length co35) t263 1 t274 t275 w _ ?side1 ?side2 A46.out).mono ?_); (case side1 => exact bl HB.out); (case side2 => exact Kd.R_tight rfl zE.out); rintro e w64 ⟨rfl, hy0, hb, hkp⟩; refine ⟨_, rfl, ?_⟩; have n0_ := Aside0.mk (Kd.R_mono (ok' := fun k_ => some k_ ≠ (.slice Ao35 t263.length co35 : Value).ownBlock) (Kd.R_keptB (zI.out) hkp (fun k_ hk_ hs_ => by first | exact (hk_) hs_ | exact hk_.1 hs_ | exact hk_.2 hs_ | exact hk_.1.1 hs_ | exact hk_.1.2 hs_ | exact hk_.2.1 hs_ | exact hk_.2.2 hs_)) (fun k_ hk_ => by first | exact hk_.1 | exact hk_.1 | exact ⟨hk_.1.1, hk_.1.2⟩ | exact ⟨hk_.1.2, hk_.1.1⟩ | exact hk_.1.1 | exact hk_.1.2)); have n1_ := Aside0.mk (Kd.R_reok rfl hy0 (fun k_ e_ => zE.out.1 k_ e_)); have n2_ := Aside0.mk (Kd.R_mono (ok' := fun k_ => True) (Kd.R_keptB ((Kd.R_apart' zB.out (Kd.R_typed zE.out) (by decide))) hkp (fun k_ hk_ hs_ => (hk_.2) hs_)) (fun k_ hk_ => trivial)); have n3_ := Aside0.mk (blk_kept (BL zx.out) hkp (fun hs_ => (fun e_ => (Kd.R_ne zE.out zx.out (by decide)) e_) hs_)); have n4_ := Aside0.mk (blk_kept (BL zy.out) hkp (fun hs_ => (fun e_ => (Kd.R_ne zE.out zy.out (by decide)) e_) hs_)); have n5_ := Aside0.mk (hb); clear zI; clear zE; clear zB; clear zx; clear zy; clear HB; have zI := n0_; have zE := n1_; have zB := n2_; have zx := n3_; have zy := n4_; have HB := n5_; clear n0_ n1_ n2_ n3_ n4_ n5_; (try clear hb); (try clear hkp); (try clear hy0)) | ((with_reducible refine zk (f := 25) rfl ?_); refine zv (some 55) rfl rfl Tryd.func25 (by kernel_rfl) rfl #[.slice Ao35 t275.length co35, .int .i64 1] rfl (by (try simp only [List.map_toArray, List.map_cons, List.map_nil]); first | done | (rw [show t275.length = t263.length from (Kd.R_reads' zE.out).1.symm] <;> rfl) | rfl | (simp only [List.length_drop, List.length_take]; rfl)) ?_; (with_reducible refine (laws_heldStringS.calls kj19 _ _ t275 1 t276 _ ?side1 ?side2 A47.out).mono ?_); (case side1 => repeat (first | exact (Kd.R_reads' zE.out).2.2 | (with_reducible refine Kd.C_alloc ?_ _) | (with_reducible refine Kd.C_drewN ?_ _) | (with_reducible refine Kd.C_drew ?_))); (case side2 => rw [show t275.length = t263.length from (Kd.R_reads' zE.out).1.symm]; exact (Kd.R_reads' zE.out).2.1); rintro e w65 ⟨rfl, hb⟩; refine ⟨_, rfl, ?_⟩; have n0_ := Aside0.mk (Kd.R_below (RL zI.out) hb); have n1_ := Aside0.mk (Kd.R_below (RL zE.out) hb); have n2_ := Aside0.mk (Kd.R_below (RL zB.out) hb); have n3_ := Aside0.mk (zm (g := zA) (o := .cells #[.slice A0_0 l0_0.length c0_0] 39 (0, 0)) (BL zx.out) hb); have n4_ := Aside0.mk (zm (g := zF) (o := .cells #[.slice Ao31 t272.length co31] 45 (0, 0)) (BL zy.out) hb); have n5_ := Aside0.mk (zi (by exact bl HB.out) hb); clear zI; clear zE; clear zB; clear zx; clear zy; clear HB; have zI := n0_; have zE := n1_; have zB := n2_; have zx := n3_; have zy := n4_; have HB := n5_; clear n0_ n1_ n2_ n3_ n4_ n5_; (try clear hb); (try clear hb2); (try clear hk); (try clear hi); have zCb := zL.out; have zDb := zN.out; have zib : w65.cell? ⟨zA, 0, none⟩ = some (.slice A0_0 l0_0.length c0_0) := (ze zx.out 0).trans rfl; have zjb := zc zx.out 0) | ((with_reducible refine zk (f := 19) rfl ?_); refine zv (some 62) rfl rfl Tryd.func19 (by kernel_rfl) rfl #[.agg #[.slice A0_0 l0_0.length c0_0]] rfl (by (try simp only [List.map_toArray, List.map_cons, List.map_nil]); first | done | rfl) ?_; (with_reducible refine (laws_toTree.calls kj19 _ _ l0_0 t277 _ ?side1 ?side2 A52.out).mono ?_); (case side1 => repeat (first | exact (Kd.C_below HR0_0.out HB.out) | (with_reducible refine Kd.C_alloc ?_ _) | (with_reducible refine Kd.C_drewN ?_ _) | (with_reducible refine Kd.C_drew ?_))); (case side2 => exact HC0_0.out); rintro e w68 ⟨v278, rfl, zH, hb⟩; refine ⟨_, rfl, ?_⟩; have n0_ := Aside0.mk (Kd.R_below (RL zI.out) hb); have n1_ := Aside0.mk (Kd.R_below (RL zE.out) hb); have n2_ := Aside0.mk (Kd.R_elder' (RL zB.out) (Kd.R_base zH) hb); have n3_ := Aside0.mk (Kd.R_lower (Kd.R_new' zH (Kd.R_lt (RL zB.out))) (zh (by exact bl HB.out))); have n4_ := Aside0.mk (zm (g := zA) (o := .cells #[.slice A0_0 l0_0.length c0_0] 39 (0, 0)) (BL zx.out) hb); have n5_ := Aside0.mk (zm (g := zF) (o := .cells #[.slice Ao31 t272.length co31] 45 (0, 0)) (BL zy.out) hb); have n6_ := Aside0.mk (zi (by exact bl HB.out) hb); clear zI; clear zE; clear zB; clear zx; clear zy; clear HB; have zI := n0_; have zE := n1_; have zB := n2_; have zO := n3_; have zx := n4_; have zy := n5_; have HB := n6_; clear n0_ n1_ n2_ n3_ n4_ n5_ n6_; (try clear hb); (try clear hb2); (try clear hk); (try clear hi); (try clear zH); obtain ⟨Ao69, co69, eo69⟩ := Kd.R_slice zO.out; subst eo69) | ((with_reducible refine zk (f := 20) rfl ?_); refine zv (some 64) rfl rfl Tryd.func20 (by kernel_rfl) rfl #[.agg #[.slice Ao69 t277.length co69], .string a1] rfl (by (try simp only [List.map_toArray, List.map_cons, List.map_nil]); first | done | rfl) ?_; (with_reducible refine (impl_Children.calls kj19 _ _ t277 a1 t280 _ ?side1 ?side2 A53.out ?globMAX_).mono ?_); (case globMAX_ => exact Go.Proofs.YtejecjjimggjeaaDoorH.GFMAX.below HGMAX_.out (by repeat (first | (with_reducible first | exact HB.out | exact Below.refl _ _ | apply zg | apply zd | apply zf | refine zj ?_ (Aside0.out (by assumption))) | exact HB.out))); (case side1 => repeat (first | exact (Kd.R_reads' zO.out).2.2 | (with_reducible refine Kd.C_alloc ?_ _) | (with_reducible refine Kd.C_drewN ?_ _) | (with_reducible refine Kd.C_drew ?_))); (case side2 => exact (Kd.R_reads' zO.out).2.1); rintro e w70 ⟨v281, rfl, zH, hb⟩; refine ⟨_, rfl, ?_⟩; have n0_ := Aside0.mk (Kd.R_elder' (RL zI.out) (Kd.R_base zH) hb); have n1_ := Aside0.mk (Kd.R_elder' (RL zE.out) (Kd.R_base zH) hb); have n2_ := Aside0.mk (Kd.R_below (RL zB.out) hb); have n3_ := Aside0.mk (Kd.R_below (RL zO.out) hb); have n4_ := Aside0.mk (Kd.R_lower (Kd.R_new' (Kd.R_new' zH (Kd.R_lt (RL zI.out))) (Kd.R_lt (RL zE.out))) (zh (by exact bl HB.out))); have n5_ := Aside0.mk (zm (g := zA) (o := .cells #[.slice A0_0 l0_0.length c0_0] 39 (0, 0)) (BL zx.out) hb); have n6_ := Aside0.mk (zm (g := zF) (o := .cells #[.slice Ao31 t272.length co31] 45 (0, 0)) (BL zy.out) hb); have n7_ := Aside0.mk (zi (by exact bl HB.out) hb); clear zI; clear zE; clear zB; clear zO; clear zx; clear zy; clear HB; have zI := n0_; have zE := n1_; have zB := n2_; have zO := n3_; have zP := n4_; have zx := n5_; have zy := n6_; have HB := n7_; clear n0_ n1_ n2_ n3_ n4_ n5_ n6_ n7_; (try clear hb); (try clear hb2); (try clear hk); (try clear hi); (try clear zH); obtain ⟨Ao71, co71, eo71⟩ := Kd.R_slice zP.out; subst eo71) | ((with_reducible refine zk (f := 21) rfl ?_); refine zv (some 67) rfl rfl Tryd.func21 (by kernel_rfl) rfl #[.slice Ao71 t280.length co71, .slice Ao36 t256.length co36] rfl (by (try simp only [List.map_toArray, List.map_cons, List.map_nil]); first | done | rfl) ?_; (with_reducible refine (laws_eqStringS.calls kj19 _ _ t280 _ _ t256 false _ ?side1 ?side2 ?side3 ?side4 A54.out).mono ?_); (case side1 => repeat (first | exact (Kd.R_reads' zP.out).2.2 | (with_reducible refine Kd.C_alloc ?_ _) | (with_reducible refine Kd.C_drewN ?_ _) | (with_reducible refine Kd.C_drew ?_))); (case side2 => exact (Kd.R_reads' zP.out).2.1); (case side3 => repeat (first | exact (Kd.R_reads' zI.out).2.2 | (with_reducible refine Kd.C_alloc ?_ _) | (with_reducible refine Kd.C_drewN ?_ _) | (with_reducible refine Kd.C_drew ?_))); (case side4 => exact (Kd.R_reads' zI.out).2.1); rintro e w' ⟨rfl, ⟨nd, rfl⟩⟩; refine ⟨_, rfl, ?_⟩))
           go_ret
           exact ⟨by first | rfl | (simp [errW_none, errW_some] <;> rfl) | (simp [*, errW_none, errW_some] <;> rfl), by repeat (first | (with_reducible first | exact HB.out | apply zg | apply zd | apply zf | refine zj ?_ zJ.out | refine zj ?_ zK.out) | exact HB.out)⟩
         ·rw [if_neg c51] at H
          have c51b0 : (t276 == t274) = false := beq_eq_false_iff_ne.mpr c51
          have c51b1 : (t276 != t274) = true := bne_iff_ne.mpr c51
          obtain rfl := Option.some.inj H
          go_wp2_with (first | ((with_reducible refine zk (f := 24) rfl ?_); refine zv (some 52) rfl rfl Tryd.func24 (by kernel_rfl) rfl #[.slice Ao35 t263.length co35, .int .i64 1] rfl (by (try simp only [List.map_toArray, List.map_cons, List.map_nil]); first | done | rfl) ?_; (with_reducible refine (laws_markStringS.calls kj19 (fun k_ => some k_ = (.slice Ao35 t263.length co35 : Value).ownBlock) (.slice Ao35 t263.length co35) t263 1 t274 t275 w _ ?side1 ?side2 A46.out).mono ?_); (case side1 => exact bl HB.out); (case side2 => exact Kd.R_tight rfl zE.out); rintro e w72 ⟨rfl, hy0, hb, hkp⟩; refine ⟨_, rfl, ?_⟩; have n0_ := Aside0.mk (Kd.R_mono (ok' := fun k_ => some k_ ≠ (.slice Ao35 t263.length co35 : Value).ownBlock) (Kd.R_keptB (zI.out) hkp (fun k_ hk_ hs_ => by first | exact (hk_) hs_ | exact hk_.1 hs_ | exact hk_.2 hs_ | exact hk_.1.1 hs_ | exact hk_.1.2 hs_ | exact hk_.2.1 hs_ | exact hk_.2.2 hs_)) (fun k_ hk_ => by first | exact hk_.1 | exact hk_.1 | exact ⟨hk_.1.1, hk_.1.2⟩ | exact ⟨hk_.1.2, hk_.1.1⟩ | exact hk_.1.1 | exact hk_.1.2)); have n1_ := Aside0.mk (Kd.R_reok rfl hy0 (fun k_ e_ => zE.out.1 k_ e_)); have n2_ := Aside0.mk (Kd.R_mono (ok' := fun k_ => True) (Kd.R_keptB ((Kd.R_apart' zB.out (Kd.R_typed zE.out) (by decide))) hkp (fun k_ hk_ hs_ => (hk_.2) hs_)) (fun k_ hk_ => trivial)); have n3_ := Aside0.mk (blk_kept (BL zx.out) hkp (fun hs_ => (fun e_ => (Kd.R_ne zE.out zx.out (by decide)) e_) hs_)); have n4_ := Aside0.mk (blk_kept (BL zy.out) hkp (fun hs_ => (fun e_ => (Kd.R_ne zE.out zy.out (by decide)) e_) hs_)); have n5_ := Aside0.mk (hb); clear zI; clear zE; clear zB; clear zx; clear zy; clear HB; have zI := n0_; have zE := n1_; have zB := n2_; have zx := n3_; have zy := n4_; have HB := n5_; clear n0_ n1_ n2_ n3_ n4_ n5_; (try clear hb); (try clear hkp); (try clear hy0)) | ((with_reducible refine zk (f := 25) rfl ?_); refine zv (some 55) rfl rfl Tryd.func25 (by kernel_rfl) rfl #[.slice Ao35 t275.length co35, .int .i64 1] rfl (by (try simp only [List.map_toArray, List.map_cons, List.map_nil]); first | done | (rw [show t275.length = t263.length from (Kd.R_reads' zE.out).1.symm] <;> rfl) | rfl | (simp only [List.length_drop, List.length_take]; rfl)) ?_; (with_reducible refine (laws_heldStringS.calls kj19 _ _ t275 1 t276 _ ?side1 ?side2 A47.out).mono ?_); (case side1 => repeat (first | exact (Kd.R_reads' zE.out).2.2 | (with_reducible refine Kd.C_alloc ?_ _) | (with_reducible refine Kd.C_drewN ?_ _) | (with_reducible refine Kd.C_drew ?_))); (case side2 => rw [show t275.length = t263.length from (Kd.R_reads' zE.out).1.symm]; exact (Kd.R_reads' zE.out).2.1); rintro e w73 ⟨rfl, hb⟩; refine ⟨_, rfl, ?_⟩; have n0_ := Aside0.mk (Kd.R_below (RL zI.out) hb); have n1_ := Aside0.mk (Kd.R_below (RL zE.out) hb); have n2_ := Aside0.mk (Kd.R_below (RL zB.out) hb); have n3_ := Aside0.mk (zm (g := zA) (o := .cells #[.slice A0_0 l0_0.length c0_0] 39 (0, 0)) (BL zx.out) hb); have n4_ := Aside0.mk (zm (g := zF) (o := .cells #[.slice Ao31 t272.length co31] 45 (0, 0)) (BL zy.out) hb); have n5_ := Aside0.mk (zi (by exact bl HB.out) hb); clear zI; clear zE; clear zB; clear zx; clear zy; clear HB; have zI := n0_; have zE := n1_; have zB := n2_; have zx := n3_; have zy := n4_; have HB := n5_; clear n0_ n1_ n2_ n3_ n4_ n5_; (try clear hb); (try clear hb2); (try clear hk); (try clear hi)))
          go_ret
          exact ⟨by first | rfl | (simp [errW_none, errW_some] <;> rfl) | (simp [*, errW_none, errW_some] <;> rfl), by repeat (first | (with_reducible first | exact HB.out | apply zg | apply zd | apply zf | refine zj ?_ zJ.out | refine zj ?_ zK.out) | exact HB.out)⟩
    ·replace c18 := Bool.eq_false_iff.mpr c18
     subst c18
     have H1 : (some false) = some r := by rw [if_neg (show ¬ (false = true) by decide)] at H; exact H
     clear H
     have H := H1
     clear H1
     obtain rfl := Option.some.inj H
     go_enter Tryd.func5, Tryd.ntmps5
     try go_wp2_with (first | ((with_reducible refine zu (N := 2) rfl ?_); refine zs ?hg (N := 2) ?hd (cs := #[.slice A0_0 l0_0.length c0_0]) (t := 39) ?hr ?_; (case hd => rfl); (case hg => rfl); (case hr => first | (go_simp; done) | (go_simp; rfl)); intro zA hg w74 hbox hb; have n0_ := Aside0.mk (zi (by exact bl HB.out) hb); have n1_ := Aside0.mk (hbox); have n2_ := Aside0.mk ((by rw [hg]; exact (zh (by exact bl HB.out)) : w.heap.size ≤ zA)); have n3_ := Aside0.mk ((by rw [hg]; exact (zh (by exact bl HB.out)) : w.heap.size ≤ zA)); clear HB; have HB := n0_; have zx := n1_; have GW251 := n2_; have zJ := n3_; clear n0_ n1_ n2_ n3_; clear hb hbox hg; have zkb : w74.cell? ⟨zA, 0, none⟩ = some (.slice A0_0 l0_0.length c0_0) := (ze zx.out 0).trans rfl; have zlb := zc zx.out 0) | ((with_reducible refine zk (f := 17) rfl ?_); refine zv (some 18) rfl rfl Tryd.func17 (by kernel_rfl) rfl #[.agg #[.slice A0_0 l0_0.length c0_0], .int .i64 1048576] rfl (by (try simp only [List.map_toArray, List.map_cons, List.map_nil]); first | done | rfl) ?_; (with_reducible refine (laws_szTree.calls k _ _ l0_0 1048576 t252 _ ?side1 ?side2 A5.out).mono ?_); (case side1 => repeat (first | exact (Kd.C_below HR0_0.out HB.out) | (with_reducible refine Kd.C_alloc ?_ _) | (with_reducible refine Kd.C_drewN ?_ _) | (with_reducible refine Kd.C_drew ?_))); (case side2 => exact HC0_0.out); rintro e w76 ⟨rfl, hb⟩; refine ⟨_, rfl, ?_⟩; have n0_ := Aside0.mk (zm (g := zA) (o := .cells #[.slice A0_0 l0_0.length c0_0] 39 (0, 0)) (BL zx.out) hb); have n1_ := Aside0.mk (zi (by exact bl HB.out) hb); clear zx; clear HB; have zx := n0_; have HB := n1_; clear n0_ n1_; (try clear hb); (try clear hb2); (try clear hk); (try clear hi); have zmb : w76.cell? ⟨zA, 0, none⟩ = some (.slice A0_0 l0_0.length c0_0) := (ze zx.out 0).trans rfl; have znb := zc zx.out 0) | ((with_reducible refine zk (f := 19) rfl ?_); refine zv (some 22) rfl rfl Tryd.func19 (by kernel_rfl) rfl #[.agg #[.slice A0_0 l0_0.length c0_0]] rfl (by (try simp only [List.map_toArray, List.map_cons, List.map_nil]); first | done | rfl) ?_; (with_reducible refine (laws_toTree.calls k _ _ l0_0 t253 _ ?side1 ?side2 A10.out).mono ?_); (case side1 => repeat (first | exact (Kd.C_below HR0_0.out HB.out) | (with_reducible refine Kd.C_alloc ?_ _) | (with_reducible refine Kd.C_drewN ?_ _) | (with_reducible refine Kd.C_drew ?_))); (case side2 => exact HC0_0.out); rintro e w78 ⟨v254, rfl, zH, hb⟩; refine ⟨_, rfl, ?_⟩; have n0_ := Aside0.mk (Kd.R_lower zH (zh (by exact bl HB.out))); have n1_ := Aside0.mk (zm (g := zA) (o := .cells #[.slice A0_0 l0_0.length c0_0] 39 (0, 0)) (BL zx.out) hb); have n2_ := Aside0.mk (zi (by exact bl HB.out) hb); clear zx; clear HB; have zz := n0_; have zx := n1_; have HB := n2_; clear n0_ n1_ n2_; (try clear hb); (try clear hb2); (try clear hk); (try clear hi); (try clear zH); obtain ⟨Ao79, co79, eo79⟩ := Kd.R_slice zz.out; subst eo79) | ((with_reducible refine zk (f := 18) rfl ?_); refine zv (some 24) rfl rfl Tryd.func18 (by kernel_rfl) rfl #[.agg #[.slice Ao79 t253.length co79], .string a1] rfl (by (try simp only [List.map_toArray, List.map_cons, List.map_nil]); first | done | rfl) ?_; (with_reducible refine (spec_Children.calls k _ _ t253 a1 t256 _ ?side1 ?side2 A11.out).mono ?_); (case side1 => repeat (first | exact (Kd.R_reads' zz.out).2.2 | (with_reducible refine Kd.C_alloc ?_ _) | (with_reducible refine Kd.C_drewN ?_ _) | (with_reducible refine Kd.C_drew ?_))); (case side2 => exact (Kd.R_reads' zz.out).2.1); rintro e w80 ⟨v257, rfl, zH, hb⟩; refine ⟨_, rfl, ?_⟩; have n0_ := Aside0.mk (Kd.R_below (RL zz.out) hb); have n1_ := Aside0.mk (Kd.R_lower zH (zh (by exact bl HB.out))); have n2_ := Aside0.mk (zm (g := zA) (o := .cells #[.slice A0_0 l0_0.length c0_0] 39 (0, 0)) (BL zx.out) hb); have n3_ := Aside0.mk (zi (by exact bl HB.out) hb); clear zz; clear zx; clear HB; have zz := n0_; have zC := n1_; have zx := n2_; have HB := n3_; clear n0_ n1_ n2_ n3_; (try clear hb); (try clear hb2); (try clear hk); (try clear hi); (try clear zH); have zob : w80.cell? ⟨zA, 0, none⟩ = some (.slice A0_0 l0_0.length c0_0) := (ze zx.out 0).trans rfl; have zpb := zc zx.out 0) | ((with_reducible refine zk (f := 19) rfl ?_); refine zv (some 26) rfl rfl Tryd.func19 (by kernel_rfl) rfl #[.agg #[.slice A0_0 l0_0.length c0_0]] rfl (by (try simp only [List.map_toArray, List.map_cons, List.map_nil]); first | done | rfl) ?_; (with_reducible refine (laws_toTree.calls k _ _ l0_0 t259 _ ?side1 ?side2 A12.out).mono ?_); (case side1 => repeat (first | exact (Kd.C_below HR0_0.out HB.out) | (with_reducible refine Kd.C_alloc ?_ _) | (with_reducible refine Kd.C_drewN ?_ _) | (with_reducible refine Kd.C_drew ?_))); (case side2 => exact HC0_0.out); rintro e w82 ⟨v260, rfl, zH, hb⟩; refine ⟨_, rfl, ?_⟩; have n0_ := Aside0.mk (Kd.R_elder' (RL zz.out) (Kd.R_base zH) hb); have n1_ := Aside0.mk (Kd.R_below (RL zC.out) hb); have n2_ := Aside0.mk (Kd.R_lower (Kd.R_new' zH (Kd.R_lt (RL zz.out))) (zh (by exact bl HB.out))); have n3_ := Aside0.mk (zm (g := zA) (o := .cells #[.slice A0_0 l0_0.length c0_0] 39 (0, 0)) (BL zx.out) hb); have n4_ := Aside0.mk (zi (by exact bl HB.out) hb); clear zz; clear zC; clear zx; clear HB; have zz := n0_; have zC := n1_; have zD := n2_; have zx := n3_; have HB := n4_; clear n0_ n1_ n2_ n3_ n4_; (try clear hb); (try clear hb2); (try clear hk); (try clear hi); (try clear zH)) | ((with_reducible refine zu (N := 7) rfl ?_); refine zs ?hg (N := 7) ?hd (cs := #[.slice none 0 0]) (t := 45) ?hr ?_; (case hd => rfl); (case hg => rfl); (case hr => first | (go_simp; done) | (go_simp; rfl)); intro zF hg w83 hbox hb; have n0_ := Aside0.mk (Kd.R_below (RL zz.out) hb); have n1_ := Aside0.mk (Kd.R_below (RL zC.out) hb); have n2_ := Aside0.mk (Kd.R_below (RL zD.out) hb); have n3_ := Aside0.mk (zm (g := zA) (o := .cells #[.slice A0_0 l0_0.length c0_0] 39 (0, 0)) (BL zx.out) hb); have n4_ := Aside0.mk (zi (by exact bl HB.out) hb); have n5_ := Aside0.mk (hbox); have n6_ := Aside0.mk ((by rw [hg]; exact (zh (by exact bl HB.out)) : w.heap.size ≤ zF)); have n7_ := Aside0.mk ((by rw [hg]; exact (zh (by exact bl HB.out)) : w.heap.size ≤ zF)); have n8_ := Aside0.mk ((by rw [hg]; exact Nat.ne_of_lt (blk_lt (g := zA) (o := .cells #[.slice A0_0 l0_0.length c0_0] 39 (0, 0)) (BL zx.out)) : zA ≠ zF)); have n9_ := Aside0.mk ((by rw [hg]; exact Nat.ne_of_gt (blk_lt (g := zA) (o := .cells #[.slice A0_0 l0_0.length c0_0] 39 (0, 0)) (BL zx.out)) : zF ≠ zA)); clear zz; clear zC; clear zD; clear zx; clear HB; have zz := n0_; have zC := n1_; have zD := n2_; have zx := n3_; have HB := n4_; have zy := n5_; have GW262 := n6_; have zK := n7_; have zL := n8_; have zN := n9_; clear n0_ n1_ n2_ n3_ n4_ n5_ n6_ n7_ n8_ n9_; clear hb hbox hg; obtain ⟨Ao84, co84, eo84⟩ := Kd.R_slice zD.out; subst eo84; have zEb := zN.out; have zFb := zL.out; have zqb : w83.cell? ⟨zF, 0, none⟩ = some (.slice none 0 0) := (ze zy.out 0).trans rfl; have zrb := zc zy.out 0) | ((with_reducible refine zk (f := 20) rfl ?_); have y0_ := Aside0.mk (Kd.R_mono (Kd.R_far (p := ⟨zF, 0, none⟩) (Kd.R_types zD.out zy.out (by decide)) (fun _ hk => hk.2) (.slice Ao84 t259.length co84)) (fun _ h_ => h_.1)); have y2_ := Aside0.mk (Kd.R_mono (Kd.R_far (p := ⟨zF, 0, none⟩) (Kd.R_types zC.out zy.out (by decide)) (fun _ hk => hk.2) (.slice Ao84 t259.length co84)) (fun _ h_ => h_.1)); refine zv (some 29) rfl rfl Tryd.func20 (by kernel_rfl) rfl #[.agg #[.slice Ao84 t259.length co84], .string a1] rfl (by (try simp only [List.map_toArray, List.map_cons, List.map_nil]); first | done | rfl) ?_; (with_reducible refine (impl_Children.calls k _ _ t259 a1 t263 _ ?side1 ?side2 A13.out ?globMAX_).mono ?_); (case globMAX_ => exact Go.Proofs.YtejecjjimggjeaaDoorH.GFMAX.below HGMAX_.out (by repeat (first | (with_reducible first | exact HB.out | exact Below.refl _ _ | apply zg | apply zd | apply zf | refine zj ?_ (Aside0.out (by assumption))) | exact HB.out))); (case side1 => refine (Kd.R_reads' (e := 53) (base := w.heap.size) (ok := fun k_ => (True ∧ some k_ ≠ (.slice Ao79 t253.length co79 : Value).ownBlock)) (n := t259.length) (c := co84) ?_).2.2; exact (RL y0_.out)); (case side2 => exact (Kd.R_reads' zD.out).2.1); rintro e w87 ⟨v264, rfl, zH, hb⟩; refine ⟨_, rfl, ?_⟩; have n0_ := Aside0.mk (Kd.R_below (RL ((Kd.R_mono (Kd.R_far (p := ⟨zF, 0, none⟩) (Kd.R_types zz.out zy.out (by decide)) (fun _ hk => hk.2) (.slice Ao84 t259.length co84)) (fun _ h_ => h_.1)))) hb); have n1_ := Aside0.mk (Kd.R_elder' (RL y2_.out) (Kd.R_base zH) hb); have n2_ := Aside0.mk (Kd.R_below (RL y0_.out) hb); have n3_ := Aside0.mk (Kd.R_lower (Kd.R_new' zH (Kd.R_lt (RL y2_.out))) (zh (by repeat (first | (with_reducible first | exact HB.out | apply zg | apply zd | apply zf | refine zj ?_ zJ.out | refine zj ?_ zK.out) | exact HB.out)))); have n4_ := Aside0.mk (zm (g := zA) (o := .cells #[.slice A0_0 l0_0.length c0_0] 39 (0, 0)) (by (with_reducible repeat (first | refine zn ?_ _ | refine zo ?_ | refine zl ?_ _)); refine blk_far ?_ zL.out _; (with_reducible repeat (first | refine zn ?_ _ | refine zo ?_ | refine zl ?_ _)); exact zx.out) hb); have n5_ := Aside0.mk (zm (g := zF) (o := .cells #[.slice Ao84 t259.length co84] 45 (0, 0)) (by (with_reducible repeat (first | refine zn ?_ _ | refine zo ?_ | refine zl ?_ _)); refine zw (cs := #[.slice none 0 0]) ?_ 0 _ rfl; (with_reducible repeat (first | refine zn ?_ _ | refine zo ?_ | refine zl ?_ _)); exact zy.out) hb); have n6_ := Aside0.mk (zi (by repeat (first | (with_reducible first | exact HB.out | apply zg | apply zd | apply zf | refine zj ?_ zJ.out | refine zj ?_ zK.out) | exact HB.out)) hb); clear zz; clear zC; clear zD; clear zx; clear zy; clear HB; have zz := n0_; have zC := n1_; have zD := n2_; have zG := n3_; have zx := n4_; have zy := n5_; have HB := n6_; clear n0_ n1_ n2_ n3_ n4_ n5_ n6_; (try clear hb); (try clear hb2); (try clear hk); (try clear hi); (try clear zH); obtain ⟨Ao88, co88, eo88⟩ := Kd.R_slice zG.out; subst eo88; obtain ⟨Ao89, co89, eo89⟩ := Kd.R_slice zC.out; subst eo89; (try clear y0_ y2_)) | ((with_reducible refine zk (f := 21) rfl ?_); refine zv (some 32) rfl rfl Tryd.func21 (by kernel_rfl) rfl #[.slice Ao88 t263.length co88, .slice Ao89 t256.length co89] rfl (by (try simp only [List.map_toArray, List.map_cons, List.map_nil]); first | done | rfl) ?_; (with_reducible refine (laws_eqStringS.calls k _ _ t263 _ _ t256 true _ ?side1 ?side2 ?side3 ?side4 A14.out).mono ?_); (case side1 => repeat (first | exact (Kd.R_reads' zG.out).2.2 | (with_reducible refine Kd.C_alloc ?_ _) | (with_reducible refine Kd.C_drewN ?_ _) | (with_reducible refine Kd.C_drew ?_))); (case side2 => exact (Kd.R_reads' zG.out).2.1); (case side3 => repeat (first | exact (Kd.R_reads' zC.out).2.2 | (with_reducible refine Kd.C_alloc ?_ _) | (with_reducible refine Kd.C_drewN ?_ _) | (with_reducible refine Kd.C_drew ?_))); (case side4 => exact (Kd.R_reads' zC.out).2.1); rintro e w' ⟨rfl, ⟨nd, rfl⟩⟩; refine ⟨_, rfl, ?_⟩))
     (try (rw [drewN_self w87]; generalize hq_ : World.drewN w87 _ = w87; have n0_ : Aside0 (Kd.R k53 53 w87 w.heap.size (fun k_ => some k_ ≠ (.slice Ao84 t259.length co84 : Value).ownBlock) (.slice Ao79 t253.length co79) t253) := ⟨by rw [← hq_]; exact (RL (Kd.R_mono zz.out (fun _ hk => hk.2)))⟩; have n1_ : Aside0 (Kd.R Kd.string 9 w87 w.heap.size (fun k_ => some k_ ≠ (.slice Ao88 t263.length co88 : Value).ownBlock) (.slice Ao89 t256.length co89) t256) := ⟨by rw [← hq_]; exact (RL (Kd.R_mono zC.out (fun _ hk => hk.2)))⟩; have n2_ : Aside0 (Kd.R k53 53 w87 w.heap.size (fun k_ => some k_ ≠ (.slice Ao79 t253.length co79 : Value).ownBlock) (.slice Ao84 t259.length co84) t259) := ⟨by rw [← hq_]; exact (RL (Kd.R_mono zD.out (fun _ hk => hk.2)))⟩; have n3_ : Aside0 (Kd.R Kd.string 9 w87 w.heap.size (fun k_ => some k_ ≠ (.slice Ao89 t256.length co89 : Value).ownBlock) (.slice Ao88 t263.length co88) t263) := ⟨by rw [← hq_]; exact (RL (Kd.R_mono zG.out (fun _ hk => hk.2)))⟩; have n4_ : Aside0 (w87.heap[zA]? = some (.cells #[.slice A0_0 l0_0.length c0_0] 39 (0, 0))) := ⟨by rw [← hq_]; exact (BL zx.out)⟩; have n5_ : Aside0 (w87.heap[zF]? = some (.cells #[.slice Ao84 t259.length co84] 45 (0, 0))) := ⟨by rw [← hq_]; exact (BL zy.out)⟩; have n6_ : Aside0 (Below w.heap.size w w87) := ⟨by rw [← hq_]; exact (by repeat (first | (with_reducible first | exact HB.out | apply zg | apply zd | apply zf | refine zj ?_ zJ.out | refine zj ?_ zK.out) | exact HB.out))⟩; clear zz zC zD zG zx zy HB hq_; have zz := n0_; have zC := n1_; have zD := n2_; have zG := n3_; have zx := n4_; have zy := n5_; have HB := n6_; clear n0_ n1_ n2_ n3_ n4_ n5_ n6_))
     have n0_ := Aside0.mk (Kd.R_drew zz.out)
     have n1_ := Aside0.mk (Kd.R_drew zC.out)
     have n2_ := Aside0.mk (Kd.R_drew zD.out)
     have n3_ := Aside0.mk (Kd.R_drew zG.out)
     have n4_ := Aside0.mk (zo zx.out)
     have n5_ := Aside0.mk (zo zy.out)
     have n6_ := Aside0.mk (zf HB.out)
     clear zz
     clear zC
     clear zD
     clear zG
     clear zx
     clear zy
     clear HB
     have zz := n0_
     have zC := n1_
     have zD := n2_
     have zG := n3_
     have zx := n4_
     have zy := n5_
     have HB := n6_
     clear n0_ n1_ n2_ n3_ n4_ n5_ n6_
     refine start_ (n := 5) (S := fun w' => w'.cell? ⟨zF, 0, none⟩ = some (.slice Ao84 t259.length co84) ∧ w'.cell? ⟨zA, 0, none⟩ = some (.slice A0_0 l0_0.length c0_0)) (ds := []) #[false, false, false, false, false] (by kernel_rfl) rfl rfl ⟨(ze zy.out 0).trans rfl, (ze zx.out 0).trans rfl⟩ (fun hHeld => ?_)
     generalize w87.drew = w90 at zz zC zD zG zx zy HB hHeld ⊢
     refine take_ (i := 0) (N := some 34) (v := ?_) (a' := ?_) #[true, false, false, false, false] rfl rfl (by kernel_rfl) (fun _ _ _ h => h) (Or.inl ⟨by rfl, ?_⟩) hHeld ?_ ?_
     rotate_left
     ·rintro w' ⟨s0, s1⟩
      go_simp
      with_reducible rfl
     rotate_left
     ·simp only [Act.put, List.setIfInBounds_toArray, List.set_cons_zero, List.set_cons_succ, zq, zr]
      rfl
     refine take_ (i := 1) (N := some 35) (v := ?_) (a' := ?_) #[true, true, false, false, false] rfl rfl (by kernel_rfl) (fun _ _ _ h => h) (Or.inl ⟨by rfl, ?_⟩) hHeld ?_ ?_
     rotate_left
     ·rintro w' ⟨s0, s1⟩
      go_simp
      with_reducible rfl
     rotate_left
     ·simp only [Act.put, List.setIfInBounds_toArray, List.set_cons_zero, List.set_cons_succ, zq, zr]
      rfl
     refine one_ (i := 2) (N := some 36) #[true, true, true, false, false] rfl rfl (by kernel_rfl) (by decide) (fun K hK => ?_)
     refine goes_ Tryd.func19 (by kernel_rfl) rfl #[.agg #[.slice A0_0 l0_0.length c0_0]] (by rfl) rfl rfl (by (try simp only [List.map_toArray, List.map_cons, List.map_nil]); first | done | rfl) ?_
     with_reducible refine (laws_toTree.calls k _ _ l0_0 t267 _ ?side1 ?side2 A16.out).mono ?_
     (case side1 => repeat (first | exact (Kd.C_below HR0_0.out HB.out) | (with_reducible refine Kd.C_alloc ?_ _) | (with_reducible refine Kd.C_drewN ?_ _) | (with_reducible refine Kd.C_drew ?_)))
     (case side2 => exact HC0_0.out)
     rintro e w91 ⟨v268, rfl, zH, hb⟩
     refine ⟨_, rfl, ?_⟩
     have n0_ := Aside0.mk (Kd.R_elder' (RL zz.out) (Kd.R_base zH) hb)
     have n1_ := Aside0.mk (Kd.R_below (RL zC.out) hb)
     have n2_ := Aside0.mk (Kd.R_elder' (RL zD.out) (Kd.R_base zH) hb)
     have n3_ := Aside0.mk (Kd.R_below (RL zG.out) hb)
     have n4_ := Aside0.mk (Kd.R_lower (Kd.R_new' (Kd.R_new' zH (Kd.R_lt (RL zz.out))) (Kd.R_lt (RL zD.out))) (zh (by repeat (first | (with_reducible first | exact HB.out | apply zg | apply zd | apply zf | refine zj ?_ zJ.out | refine zj ?_ zK.out) | exact HB.out))))
     have n5_ := Aside0.mk (zm (g := zA) (o := .cells #[.slice A0_0 l0_0.length c0_0] 39 (0, 0)) (BL zx.out) hb)
     have n6_ := Aside0.mk (zm (g := zF) (o := .cells #[.slice Ao84 t259.length co84] 45 (0, 0)) (BL zy.out) hb)
     have n7_ := Aside0.mk (zi (by repeat (first | (with_reducible first | exact HB.out | apply zg | apply zd | apply zf | refine zj ?_ zJ.out | refine zj ?_ zK.out) | exact HB.out)) hb)
     clear zz
     clear zC
     clear zD
     clear zG
     clear zx
     clear zy
     clear HB
     have zz := n0_
     have zC := n1_
     have zD := n2_
     have zG := n3_
     have zM := n4_
     have zx := n5_
     have zy := n6_
     have HB := n7_
     clear n0_ n1_ n2_ n3_ n4_ n5_ n6_ n7_
     (try clear hb)
     (try clear hb2)
     (try clear hk)
     (try clear hi)
     (try clear zH)
     obtain ⟨Ao92, co92, eo92⟩ := Kd.R_slice zM.out
     (first | subst eo92 | (injection eo92 with f1_ f2_ f3_; have f4_ := f1_.symm; have f5_ := f3_.symm; clear f1_ f2_ f3_; subst f4_; subst f5_))
     refine hK.out _ _ ⟨(ze zy.out 0).trans rfl, (ze zx.out 0).trans rfl⟩ (fun hHeld => ?_)
     clear hK K
     refine norm_ (a' := ?_) ?_ ?_
     rotate_left
     ·show Act.put _ (some 36) _ = _
      simp only [Act.put, List.setIfInBounds_toArray, List.set_cons_zero, List.set_cons_succ, zq, zr]
      rfl
     refine one_ (i := 3) (N := some 37) #[true, true, true, true, false] rfl rfl (by kernel_rfl) (by decide) (fun K hK => ?_)
     refine goes_ Tryd.func22 (by kernel_rfl) rfl #[.agg #[.slice Ao84 t259.length co84], .agg #[.slice Ao92 t267.length co92]] (by rfl) rfl rfl (by (try simp only [List.map_toArray, List.map_cons, List.map_nil]); first | done | rfl) ?_
     with_reducible refine (laws_eqTree.calls k _ _ t259 _ _ t267 false _ ?side1 ?side2 ?side3 ?side4 A17.out).mono ?_
     (case side1 => repeat (first | exact (Kd.R_reads' zD.out).2.2 | (with_reducible refine Kd.C_alloc ?_ _) | (with_reducible refine Kd.C_drewN ?_ _) | (with_reducible refine Kd.C_drew ?_)))
     (case side2 => exact (Kd.R_reads' zD.out).2.1)
     (case side3 => repeat (first | exact (Kd.R_reads' zM.out).2.2 | (with_reducible refine Kd.C_alloc ?_ _) | (with_reducible refine Kd.C_drewN ?_ _) | (with_reducible refine Kd.C_drew ?_)))
     (case side4 => exact (Kd.R_reads' zM.out).2.1)
     rintro e w93 ⟨rfl, hb⟩
     refine ⟨_, rfl, ?_⟩
     have n0_ := Aside0.mk (Kd.R_below (RL zz.out) hb)
     have n1_ := Aside0.mk (Kd.R_below (RL zC.out) hb)
     have n2_ := Aside0.mk (Kd.R_below (RL zD.out) hb)
     have n3_ := Aside0.mk (Kd.R_below (RL zG.out) hb)
     have n4_ := Aside0.mk (Kd.R_below (RL zM.out) hb)
     have n5_ := Aside0.mk (zm (g := zA) (o := .cells #[.slice A0_0 l0_0.length c0_0] 39 (0, 0)) (BL zx.out) hb)
     have n6_ := Aside0.mk (zm (g := zF) (o := .cells #[.slice Ao84 t259.length co84] 45 (0, 0)) (BL zy.out) hb)
     have n7_ := Aside0.mk (zi (by repeat (first | (with_reducible first | exact HB.out | apply zg | apply zd | apply zf | refine zj ?_ zJ.out | refine zj ?_ zK.out) | exact HB.out)) hb)
     clear zz
     clear zC
     clear zD
     clear zG
     clear zM
     clear zx
     clear zy
     clear HB
     have zz := n0_
     have zC := n1_
     have zD := n2_
     have zG := n3_
     have zM := n4_
     have zx := n5_
     have zy := n6_
     have HB := n7_
     clear n0_ n1_ n2_ n3_ n4_ n5_ n6_ n7_
     (try clear hb)
     (try clear hb2)
     (try clear hk)
     (try clear hi)
     refine hK.out _ _ ⟨(ze zy.out 0).trans rfl, (ze zx.out 0).trans rfl⟩ (fun hHeld => ?_)
     clear hK K
     refine norm_ (a' := ?_) ?_ ?_
     rotate_left
     ·show Act.put _ (some 37) _ = _
      simp only [Act.put, List.setIfInBounds_toArray, List.set_cons_zero, List.set_cons_succ, zq, zr]
      rfl
     refine zt (i := 4) (N := some 38) (v := ?_) (a' := ?_) #[true, true, true, true, true] rfl rfl (by kernel_rfl) (fun _ _ _ h => h) (Or.inl ⟨by rfl, ?_⟩) ?_ ?_
     rotate_left
     ·intro w'
      go_simp
      with_reducible rfl
     rotate_left
     ·simp only [Act.put, List.setIfInBounds_toArray, List.set_cons_zero, List.set_cons_succ, zq, zr]
      rfl
     refine done_ (by kernel_rfl) ?_
     try go_wp2
     go_ret
     exact ⟨by first | rfl | (simp [errW_none, errW_some] <;> rfl) | (simp [*, errW_none, errW_some] <;> rfl), by repeat (first | (with_reducible first | exact HB.out | apply zg | apply zd | apply zf | refine zj ?_ zJ.out | refine zj ?_ zK.out) | exact HB.out)⟩
   ·replace c15 := Bool.eq_false_iff.mpr c15
    subst c15
    have H1 : (some false) = some r := by rw [if_neg (show ¬ (false = true) by decide)] at H; exact H
    clear H
    have H := H1
    clear H1
    obtain rfl := Option.some.inj H
    go_enter Tryd.func5, Tryd.ntmps5
    go_wp2_with (first | ((with_reducible refine zu (N := 2) rfl ?_); refine zs ?hg (N := 2) ?hd (cs := #[.slice A0_0 l0_0.length c0_0]) (t := 39) ?hr ?_; (case hd => rfl); (case hg => rfl); (case hr => first | (go_simp; done) | (go_simp; rfl)); intro zA hg w94 hbox hb; have n0_ := Aside0.mk (zi (by exact bl HB.out) hb); have n1_ := Aside0.mk (hbox); have n2_ := Aside0.mk ((by rw [hg]; exact (zh (by exact bl HB.out)) : w.heap.size ≤ zA)); have n3_ := Aside0.mk ((by rw [hg]; exact (zh (by exact bl HB.out)) : w.heap.size ≤ zA)); clear HB; have HB := n0_; have zx := n1_; have GW251 := n2_; have zJ := n3_; clear n0_ n1_ n2_ n3_; clear hb hbox hg; have zsb : w94.cell? ⟨zA, 0, none⟩ = some (.slice A0_0 l0_0.length c0_0) := (ze zx.out 0).trans rfl; have ztb := zc zx.out 0) | ((with_reducible refine zk (f := 17) rfl ?_); refine zv (some 18) rfl rfl Tryd.func17 (by kernel_rfl) rfl #[.agg #[.slice A0_0 l0_0.length c0_0], .int .i64 1048576] rfl (by (try simp only [List.map_toArray, List.map_cons, List.map_nil]); first | done | rfl) ?_; (with_reducible refine (laws_szTree.calls k _ _ l0_0 1048576 t252 _ ?side1 ?side2 A5.out).mono ?_); (case side1 => repeat (first | exact (Kd.C_below HR0_0.out HB.out) | (with_reducible refine Kd.C_alloc ?_ _) | (with_reducible refine Kd.C_drewN ?_ _) | (with_reducible refine Kd.C_drew ?_))); (case side2 => exact HC0_0.out); rintro e w96 ⟨rfl, hb⟩; refine ⟨_, rfl, ?_⟩; have n0_ := Aside0.mk (zm (g := zA) (o := .cells #[.slice A0_0 l0_0.length c0_0] 39 (0, 0)) (BL zx.out) hb); have n1_ := Aside0.mk (zi (by exact bl HB.out) hb); clear zx; clear HB; have zx := n0_; have HB := n1_; clear n0_ n1_; (try clear hb); (try clear hb2); (try clear hk); (try clear hi); have zub : w96.cell? ⟨zA, 0, none⟩ = some (.slice A0_0 l0_0.length c0_0) := (ze zx.out 0).trans rfl; have zvb := zc zx.out 0) | ((with_reducible refine zk (f := 19) rfl ?_); refine zv (some 22) rfl rfl Tryd.func19 (by kernel_rfl) rfl #[.agg #[.slice A0_0 l0_0.length c0_0]] rfl (by (try simp only [List.map_toArray, List.map_cons, List.map_nil]); first | done | rfl) ?_; (with_reducible refine (laws_toTree.calls k _ _ l0_0 t253 _ ?side1 ?side2 A10.out).mono ?_); (case side1 => repeat (first | exact (Kd.C_below HR0_0.out HB.out) | (with_reducible refine Kd.C_alloc ?_ _) | (with_reducible refine Kd.C_drewN ?_ _) | (with_reducible refine Kd.C_drew ?_))); (case side2 => exact HC0_0.out); rintro e w98 ⟨v254, rfl, zH, hb⟩; refine ⟨_, rfl, ?_⟩; have n0_ := Aside0.mk (Kd.R_lower zH (zh (by exact bl HB.out))); have n1_ := Aside0.mk (zm (g := zA) (o := .cells #[.slice A0_0 l0_0.length c0_0] 39 (0, 0)) (BL zx.out) hb); have n2_ := Aside0.mk (zi (by exact bl HB.out) hb); clear zx; clear HB; have zz := n0_; have zx := n1_; have HB := n2_; clear n0_ n1_ n2_; (try clear hb); (try clear hb2); (try clear hk); (try clear hi); (try clear zH); obtain ⟨Ao99, co99, eo99⟩ := Kd.R_slice zz.out; subst eo99) | ((with_reducible refine zk (f := 18) rfl ?_); refine zv (some 24) rfl rfl Tryd.func18 (by kernel_rfl) rfl #[.agg #[.slice Ao99 t253.length co99], .string a1] rfl (by (try simp only [List.map_toArray, List.map_cons, List.map_nil]); first | done | rfl) ?_; (with_reducible refine (spec_Children.calls k _ _ t253 a1 t256 _ ?side1 ?side2 A11.out).mono ?_); (case side1 => repeat (first | exact (Kd.R_reads' zz.out).2.2 | (with_reducible refine Kd.C_alloc ?_ _) | (with_reducible refine Kd.C_drewN ?_ _) | (with_reducible refine Kd.C_drew ?_))); (case side2 => exact (Kd.R_reads' zz.out).2.1); rintro e w100 ⟨v257, rfl, zH, hb⟩; refine ⟨_, rfl, ?_⟩; have n0_ := Aside0.mk (Kd.R_below (RL zz.out) hb); have n1_ := Aside0.mk (Kd.R_lower zH (zh (by exact bl HB.out))); have n2_ := Aside0.mk (zm (g := zA) (o := .cells #[.slice A0_0 l0_0.length c0_0] 39 (0, 0)) (BL zx.out) hb); have n3_ := Aside0.mk (zi (by exact bl HB.out) hb); clear zz; clear zx; clear HB; have zz := n0_; have zC := n1_; have zx := n2_; have HB := n3_; clear n0_ n1_ n2_ n3_; (try clear hb); (try clear hb2); (try clear hk); (try clear hi); (try clear zH); have zcb : w100.cell? ⟨zA, 0, none⟩ = some (.slice A0_0 l0_0.length c0_0) := (ze zx.out 0).trans rfl; have zdb := zc zx.out 0) | ((with_reducible refine zk (f := 19) rfl ?_); refine zv (some 26) rfl rfl Tryd.func19 (by kernel_rfl) rfl #[.agg #[.slice A0_0 l0_0.length c0_0]] rfl (by (try simp only [List.map_toArray, List.map_cons, List.map_nil]); first | done | rfl) ?_; (with_reducible refine (laws_toTree.calls k _ _ l0_0 t259 _ ?side1 ?side2 A12.out).mono ?_); (case side1 => repeat (first | exact (Kd.C_below HR0_0.out HB.out) | (with_reducible refine Kd.C_alloc ?_ _) | (with_reducible refine Kd.C_drewN ?_ _) | (with_reducible refine Kd.C_drew ?_))); (case side2 => exact HC0_0.out); rintro e w102 ⟨v260, rfl, zH, hb⟩; refine ⟨_, rfl, ?_⟩; have n0_ := Aside0.mk (Kd.R_elder' (RL zz.out) (Kd.R_base zH) hb); have n1_ := Aside0.mk (Kd.R_below (RL zC.out) hb); have n2_ := Aside0.mk (Kd.R_lower (Kd.R_new' zH (Kd.R_lt (RL zz.out))) (zh (by exact bl HB.out))); have n3_ := Aside0.mk (zm (g := zA) (o := .cells #[.slice A0_0 l0_0.length c0_0] 39 (0, 0)) (BL zx.out) hb); have n4_ := Aside0.mk (zi (by exact bl HB.out) hb); clear zz; clear zC; clear zx; clear HB; have zz := n0_; have zC := n1_; have zD := n2_; have zx := n3_; have HB := n4_; clear n0_ n1_ n2_ n3_ n4_; (try clear hb); (try clear hb2); (try clear hk); (try clear hi); (try clear zH)) | ((with_reducible refine zu (N := 7) rfl ?_); refine zs ?hg (N := 7) ?hd (cs := #[.slice none 0 0]) (t := 45) ?hr ?_; (case hd => rfl); (case hg => rfl); (case hr => first | (go_simp; done) | (go_simp; rfl)); intro zF hg w103 hbox hb; have n0_ := Aside0.mk (Kd.R_below (RL zz.out) hb); have n1_ := Aside0.mk (Kd.R_below (RL zC.out) hb); have n2_ := Aside0.mk (Kd.R_below (RL zD.out) hb); have n3_ := Aside0.mk (zm (g := zA) (o := .cells #[.slice A0_0 l0_0.length c0_0] 39 (0, 0)) (BL zx.out) hb); have n4_ := Aside0.mk (zi (by exact bl HB.out) hb); have n5_ := Aside0.mk (hbox); have n6_ := Aside0.mk ((by rw [hg]; exact (zh (by exact bl HB.out)) : w.heap.size ≤ zF)); have n7_ := Aside0.mk ((by rw [hg]; exact (zh (by exact bl HB.out)) : w.heap.size ≤ zF)); have n8_ := Aside0.mk ((by rw [hg]; exact Nat.ne_of_lt (blk_lt (g := zA) (o := .cells #[.slice A0_0 l0_0.length c0_0] 39 (0, 0)) (BL zx.out)) : zA ≠ zF)); have n9_ := Aside0.mk ((by rw [hg]; exact Nat.ne_of_gt (blk_lt (g := zA) (o := .cells #[.slice A0_0 l0_0.length c0_0] 39 (0, 0)) (BL zx.out)) : zF ≠ zA)); clear zz; clear zC; clear zD; clear zx; clear HB; have zz := n0_; have zC := n1_; have zD := n2_; have zx := n3_; have HB := n4_; have zy := n5_; have GW262 := n6_; have zK := n7_; have zL := n8_; have zN := n9_; clear n0_ n1_ n2_ n3_ n4_ n5_ n6_ n7_ n8_ n9_; clear hb hbox hg; obtain ⟨Ao104, co104, eo104⟩ := Kd.R_slice zD.out; subst eo104; have zwb := zN.out; have zxb := zL.out; have zeb : w103.cell? ⟨zF, 0, none⟩ = some (.slice none 0 0) := (ze zy.out 0).trans rfl; have zfb := zc zy.out 0) | ((with_reducible refine zk (f := 20) rfl ?_); have y0_ := Aside0.mk (Kd.R_mono (Kd.R_far (p := ⟨zF, 0, none⟩) (Kd.R_types zD.out zy.out (by decide)) (fun _ hk => hk.2) (.slice Ao104 t259.length co104)) (fun _ h_ => h_.1)); have y2_ := Aside0.mk (Kd.R_mono (Kd.R_far (p := ⟨zF, 0, none⟩) (Kd.R_types zC.out zy.out (by decide)) (fun _ hk => hk.2) (.slice Ao104 t259.length co104)) (fun _ h_ => h_.1)); refine zv (some 29) rfl rfl Tryd.func20 (by kernel_rfl) rfl #[.agg #[.slice Ao104 t259.length co104], .string a1] rfl (by (try simp only [List.map_toArray, List.map_cons, List.map_nil]); first | done | rfl) ?_; (with_reducible refine (impl_Children.calls k _ _ t259 a1 t263 _ ?side1 ?side2 A13.out ?globMAX_).mono ?_); (case globMAX_ => exact Go.Proofs.YtejecjjimggjeaaDoorH.GFMAX.below HGMAX_.out (by repeat (first | (with_reducible first | exact HB.out | exact Below.refl _ _ | apply zg | apply zd | apply zf | refine zj ?_ (Aside0.out (by assumption))) | exact HB.out))); (case side1 => refine (Kd.R_reads' (e := 53) (base := w.heap.size) (ok := fun k_ => (True ∧ some k_ ≠ (.slice Ao99 t253.length co99 : Value).ownBlock)) (n := t259.length) (c := co104) ?_).2.2; exact (RL y0_.out)); (case side2 => exact (Kd.R_reads' zD.out).2.1); rintro e w107 ⟨v264, rfl, zH, hb⟩; refine ⟨_, rfl, ?_⟩; have n0_ := Aside0.mk (Kd.R_below (RL ((Kd.R_mono (Kd.R_far (p := ⟨zF, 0, none⟩) (Kd.R_types zz.out zy.out (by decide)) (fun _ hk => hk.2) (.slice Ao104 t259.length co104)) (fun _ h_ => h_.1)))) hb); have n1_ := Aside0.mk (Kd.R_elder' (RL y2_.out) (Kd.R_base zH) hb); have n2_ := Aside0.mk (Kd.R_below (RL y0_.out) hb); have n3_ := Aside0.mk (Kd.R_lower (Kd.R_new' zH (Kd.R_lt (RL y2_.out))) (zh (by repeat (first | (with_reducible first | exact HB.out | apply zg | apply zd | apply zf | refine zj ?_ zJ.out | refine zj ?_ zK.out) | exact HB.out)))); have n4_ := Aside0.mk (zm (g := zA) (o := .cells #[.slice A0_0 l0_0.length c0_0] 39 (0, 0)) (by (with_reducible repeat (first | refine zn ?_ _ | refine zo ?_ | refine zl ?_ _)); refine blk_far ?_ zL.out _; (with_reducible repeat (first | refine zn ?_ _ | refine zo ?_ | refine zl ?_ _)); exact zx.out) hb); have n5_ := Aside0.mk (zm (g := zF) (o := .cells #[.slice Ao104 t259.length co104] 45 (0, 0)) (by (with_reducible repeat (first | refine zn ?_ _ | refine zo ?_ | refine zl ?_ _)); refine zw (cs := #[.slice none 0 0]) ?_ 0 _ rfl; (with_reducible repeat (first | refine zn ?_ _ | refine zo ?_ | refine zl ?_ _)); exact zy.out) hb); have n6_ := Aside0.mk (zi (by repeat (first | (with_reducible first | exact HB.out | apply zg | apply zd | apply zf | refine zj ?_ zJ.out | refine zj ?_ zK.out) | exact HB.out)) hb); clear zz; clear zC; clear zD; clear zx; clear zy; clear HB; have zz := n0_; have zC := n1_; have zD := n2_; have zG := n3_; have zx := n4_; have zy := n5_; have HB := n6_; clear n0_ n1_ n2_ n3_ n4_ n5_ n6_; (try clear hb); (try clear hb2); (try clear hk); (try clear hi); (try clear zH); obtain ⟨Ao108, co108, eo108⟩ := Kd.R_slice zG.out; subst eo108; obtain ⟨Ao109, co109, eo109⟩ := Kd.R_slice zC.out; subst eo109; (try clear y0_ y2_)) | ((with_reducible refine zk (f := 21) rfl ?_); refine zv (some 32) rfl rfl Tryd.func21 (by kernel_rfl) rfl #[.slice Ao108 t263.length co108, .slice Ao109 t256.length co109] rfl (by (try simp only [List.map_toArray, List.map_cons, List.map_nil]); first | done | rfl) ?_; (with_reducible refine (laws_eqStringS.calls k _ _ t263 _ _ t256 false _ ?side1 ?side2 ?side3 ?side4 A14.out).mono ?_); (case side1 => repeat (first | exact (Kd.R_reads' zG.out).2.2 | (with_reducible refine Kd.C_alloc ?_ _) | (with_reducible refine Kd.C_drewN ?_ _) | (with_reducible refine Kd.C_drew ?_))); (case side2 => exact (Kd.R_reads' zG.out).2.1); (case side3 => repeat (first | exact (Kd.R_reads' zC.out).2.2 | (with_reducible refine Kd.C_alloc ?_ _) | (with_reducible refine Kd.C_drewN ?_ _) | (with_reducible refine Kd.C_drew ?_))); (case side4 => exact (Kd.R_reads' zC.out).2.1); rintro e w' ⟨rfl, ⟨nd, rfl⟩⟩; refine ⟨_, rfl, ?_⟩))
    go_ret
    exact ⟨by first | rfl | (simp [errW_none, errW_some] <;> rfl) | (simp [*, errW_none, errW_some] <;> rfl), by repeat (first | (with_reducible first | exact HB.out | apply zg | apply zd | apply zf | refine zj ?_ zJ.out | refine zj ?_ zK.out) | exact HB.out)⟩

/-- THE ONE PURE STATEMENT of laws_FnExactChildren. -/
def laws_FnExactChildren.Pure : Prop := ∀ (l0_0 : List (S100)) (a1 : ByteArray), (l0_0.length ≤ maxLen ∧ ∀ z0_ ∈ l0_0, (z0_.f0.size ≤ maxLen ∧ z0_.f1.size ≤ maxLen ∧ (Lit.int .i64 z0_.f2).wf = true ∧ (Lit.int .i64 z0_.f3).wf = true ∧ (Lit.int .i64 z0_.f4).wf = true ∧ (Lit.int .i64 z0_.f5).wf = true ∧ (Lit.int .i64 z0_.f6).wf = true)) → a1.size ≤ maxLen → ∃ k, laws_FnExactChildren.f k l0_0 a1 = some true

end Go.Proofs.YtejecjjimggjeaaDoor.GFnExactChildren
