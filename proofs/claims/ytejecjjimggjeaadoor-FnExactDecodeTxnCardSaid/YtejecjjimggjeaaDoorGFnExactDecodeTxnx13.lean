/- Written by give.py, a program of this session, that runs the kit's print and lays contracts proved by hand beside it. -/
import Derived.Test.YtejecjjimggjeaaDoorGFnExactDecodeTxnx0
import Derived.Test.YtejecjjimggjeaaDoorGFnExactDecodeTxnx6
import Derived.Test.YtejecjjimggjeaaDoorGFnExactDecodeTxnx9
import Derived.Test.YtejecjjimggjeaaDoorGFnExactDecodeTxnx10
import Derived.Test.YtejecjjimggjeaaDoorGFnExactDecodeTxnx11
import Derived.Test.YtejecjjimggjeaaDoorGFnExactDecodeTxnx12
namespace Go.Proofs.YtejecjjimggjeaaDoor.GFnExactDecodeTxn
open Go.RowKit Go.Proofs.YtejecjjimggjeaaDoorW.PrintWords Go.Proofs.YtejecjjimggjeaaDoorW.PrintLast Go.Proofs.YtejecjjimggjeaaDoorW.PrintMore
attribute [local go_sem] max2_int min2_int max_two min_two max_three min_three max_four min_four
attribute [local go_sem high] Go.Proofs.YtejecjjimggjeaaDoorH.str_leq Go.Proofs.YtejecjjimggjeaaDoorH.str_geq Go.Proofs.YtejecjjimggjeaaDoorH.str_gtr   -- for this text's walks alone
set_option linter.unusedVariables false
set_option linter.unusedSimpArgs false

def laws_heldTxn.f (k : Nat) (a0_0 : Int) (l0_1 : List (S55)) (a1 : Int) : Option (Int) := (laws_heldEffectS.f k l0_1 a1).bind fun t245 => (if t245 < 0 then (some (-1)) else (some t245))
theorem laws_heldTxn.mono : ∀ a0 a1 a2 k, LeO (laws_heldTxn.f k a0 a1 a2) (laws_heldTxn.f (k + 1) a0 a1 a2) := by
 intro a0 a1 a2 k
 unfold laws_heldTxn.f
 repeat' first
   | (with_reducible exact laws_heldEffectS.mono _ _ _)
   | (with_reducible exact LeO.refl _)
   | (with_reducible exact LeO.none _)
   | (with_reducible refine LeO.ite ?_ ?_)
   | (with_reducible refine LeO.bind ?_ (fun _ => ?_))
   | exact laws_heldEffectS.mono _ _ _
   | exact LeO.none _
   | refine LeO.ite ?_ ?_
   | refine LeO.bind ?_ (fun _ => ?_)
set_option maxHeartbeats 8000000 in
set_option maxRecDepth 100000 in
theorem laws_heldTxn.calls (k : Nat) (a0_0 : Int) (A0_1 : Option Addr) (c0_1 : Nat) (l0_1 : List (S55)) (a1 : Int) (r : Int) (w : World) (hr0_1 : Kd.C k55 w A0_1 l0_1.length l0_1) (hc0_1 : l0_1.length ≤ c0_1) (h : laws_heldTxn.f k a0_0 l0_1 a1 = some r) :
  Calls Tryd.prog 37 #[.agg #[.int .i64 a0_0, .slice A0_1 l0_1.length c0_1], .int .i64 a1] w fun e w' => e = .returned (.int .i64 r) ∧ Below w.heap.size w w' := by
 have hu25 := Tryd.underlying25
 have HR0_1 := Aside0.mk hr0_1
 have HC0_1 := Aside0.mk hc0_1
 clear hr0_1 hc0_1
 have HB := Aside0.mk (Below.refl w.heap.size w)
 have H : ((laws_heldEffectS.f k l0_1 a1).bind fun t245 => (if t245 < 0 then (some (-1)) else (some t245))) = some r := h
 clear h
 replace H := Option.bind_eq_some_iff.mp H
 obtain ⟨t245, A30, H⟩ := H
 replace H : (if t245 < 0 then (some (-1)) else (some t245)) = some r := H
 have A3 := Aside0.mk A30
 clear A30
 by_cases c4 : t245 < 0
 ·rw [if_pos c4] at H
  have c4b0 : decide (t245 < 0) = true := decide_eq_true c4
  clear c4
  obtain rfl := Option.some.inj H
  go_enter Tryd.func37, Tryd.ntmps37
  go_wp2_with (first | ((with_reducible refine zw (N := 2) rfl ?_); refine zx ?hg (N := 2) ?hd (cs := #[.int .i64 a0_0, .slice A0_1 l0_1.length c0_1]) (t := 25) ?hr ?_; (case hd => rfl); (case hg => rfl); (case hr => first | (go_simp; done) | (go_simp; rfl)); intro zB hg w5 hbox hb; have n0_ := Aside0.mk (zm (by repeat (first | (with_reducible first | exact HB.out | apply zf | apply zc | apply ze) | exact HB.out)) hb); have n1_ := Aside0.mk (hbox); have n2_ := Aside0.mk ((by rw [hg]; exact (zl (by repeat (first | (with_reducible first | exact HB.out | apply zf | apply zc | apply ze) | exact HB.out))) : w.heap.size ≤ zB)); have n3_ := Aside0.mk ((by rw [hg]; exact (zl (by repeat (first | (with_reducible first | exact HB.out | apply zf | apply zc | apply ze) | exact HB.out))) : w.heap.size ≤ zB)); clear HB; have HB := n0_; have zA := n1_; have GW244 := n2_; have zC := n3_; clear n0_ n1_ n2_ n3_; clear hb hbox hg; have zD : w5.cell? ⟨zB, 0, none⟩ = some (.int .i64 a0_0) := (zi zA.out 0).trans rfl; have zE : w5.cell? ⟨zB, 1, none⟩ = some (.slice A0_1 l0_1.length c0_1) := (zi zA.out 1).trans rfl; have zF := zd zA.out 0; have zG := zd zA.out 1) | ((with_reducible refine zn (f := 59) rfl ?_); refine zz (some 8) rfl rfl Tryd.func59 (by kernel_rfl) rfl #[.slice A0_1 l0_1.length c0_1, .int .i64 a1] rfl (by (try simp only [List.map_toArray, List.map_cons, List.map_nil]); first | done | rfl | (simp only [List.length_drop, List.length_take]; rfl)) ?_; (with_reducible refine (laws_heldEffectS.calls k _ _ l0_1 a1 t245 _ ?side1 ?side2 A3.out).mono ?_); (case side1 => repeat (first | exact (Kd.C_below HR0_1.out HB.out) | (with_reducible refine Kd.C_alloc ?_ _) | (with_reducible refine Kd.C_drewN ?_ _) | (with_reducible refine Kd.C_drew ?_))); (case side2 => exact HC0_1.out); rintro e w7 ⟨rfl, hb⟩; refine ⟨_, rfl, ?_⟩; have n0_ := Aside0.mk (zt (g := zB) (o := .cells #[.int .i64 a0_0, .slice A0_1 l0_1.length c0_1] 25 (0, 0)) (by (with_reducible repeat (first | refine zh ?_ _ | refine zj ?_ | refine zg ?_ _)); exact zA.out) hb); have n1_ := Aside0.mk (zm (by repeat (first | (with_reducible first | exact HB.out | apply zf | apply zc | apply ze | refine zk ?_ zC.out) | exact HB.out)) hb); clear zA; clear HB; have zA := n0_; have HB := n1_; clear n0_ n1_; (try clear hb); (try clear hb2); (try clear hk); (try clear hi)))
  go_ret
  exact ⟨by first | rfl | (simp [errW_none, errW_some] <;> rfl) | (simp [*, errW_none, errW_some] <;> rfl), by repeat (first | (with_reducible first | exact HB.out | apply zf | apply zc | apply ze | refine zk ?_ zC.out) | exact HB.out)⟩
 ·rw [if_neg c4] at H
  have c4b0 : decide (t245 < 0) = false := decide_eq_false c4
  clear c4
  obtain rfl := Option.some.inj H
  go_enter Tryd.func37, Tryd.ntmps37
  go_wp2_with (first | ((with_reducible refine zw (N := 2) rfl ?_); refine zx ?hg (N := 2) ?hd (cs := #[.int .i64 a0_0, .slice A0_1 l0_1.length c0_1]) (t := 25) ?hr ?_; (case hd => rfl); (case hg => rfl); (case hr => first | (go_simp; done) | (go_simp; rfl)); intro zB hg w8 hbox hb; have n0_ := Aside0.mk (zm (by repeat (first | (with_reducible first | exact HB.out | apply zf | apply zc | apply ze) | exact HB.out)) hb); have n1_ := Aside0.mk (hbox); have n2_ := Aside0.mk ((by rw [hg]; exact (zl (by repeat (first | (with_reducible first | exact HB.out | apply zf | apply zc | apply ze) | exact HB.out))) : w.heap.size ≤ zB)); have n3_ := Aside0.mk ((by rw [hg]; exact (zl (by repeat (first | (with_reducible first | exact HB.out | apply zf | apply zc | apply ze) | exact HB.out))) : w.heap.size ≤ zB)); clear HB; have HB := n0_; have zA := n1_; have GW244 := n2_; have zC := n3_; clear n0_ n1_ n2_ n3_; clear hb hbox hg; have zH : w8.cell? ⟨zB, 0, none⟩ = some (.int .i64 a0_0) := (zi zA.out 0).trans rfl; have zI : w8.cell? ⟨zB, 1, none⟩ = some (.slice A0_1 l0_1.length c0_1) := (zi zA.out 1).trans rfl; have zJ := zd zA.out 0; have zK := zd zA.out 1) | ((with_reducible refine zn (f := 59) rfl ?_); refine zz (some 8) rfl rfl Tryd.func59 (by kernel_rfl) rfl #[.slice A0_1 l0_1.length c0_1, .int .i64 a1] rfl (by (try simp only [List.map_toArray, List.map_cons, List.map_nil]); first | done | rfl | (simp only [List.length_drop, List.length_take]; rfl)) ?_; (with_reducible refine (laws_heldEffectS.calls k _ _ l0_1 a1 t245 _ ?side1 ?side2 A3.out).mono ?_); (case side1 => repeat (first | exact (Kd.C_below HR0_1.out HB.out) | (with_reducible refine Kd.C_alloc ?_ _) | (with_reducible refine Kd.C_drewN ?_ _) | (with_reducible refine Kd.C_drew ?_))); (case side2 => exact HC0_1.out); rintro e w10 ⟨rfl, hb⟩; refine ⟨_, rfl, ?_⟩; have n0_ := Aside0.mk (zt (g := zB) (o := .cells #[.int .i64 a0_0, .slice A0_1 l0_1.length c0_1] 25 (0, 0)) (by (with_reducible repeat (first | refine zh ?_ _ | refine zj ?_ | refine zg ?_ _)); exact zA.out) hb); have n1_ := Aside0.mk (zm (by repeat (first | (with_reducible first | exact HB.out | apply zf | apply zc | apply ze | refine zk ?_ zC.out) | exact HB.out)) hb); clear zA; clear HB; have zA := n0_; have HB := n1_; clear n0_ n1_; (try clear hb); (try clear hb2); (try clear hk); (try clear hi)))
  go_ret
  exact ⟨by first | rfl | (simp [errW_none, errW_some] <;> rfl) | (simp [*, errW_none, errW_some] <;> rfl), by repeat (first | (with_reducible first | exact HB.out | apply zf | apply zc | apply ze | refine zk ?_ zC.out) | exact HB.out)⟩

def laws_heldTxnResult.f (k : Nat) (a0_0 : Bool) (a0_1 : Int) (l0_2 : List (S55)) (a1 : Int) : Option (Int) := (laws_heldTxn.f k a0_1 l0_2 a1).bind fun t247 => (if t247 < 0 then (some (-1)) else (some t247))
theorem laws_heldTxnResult.mono : ∀ a0 a1 a2 a3 k, LeO (laws_heldTxnResult.f k a0 a1 a2 a3) (laws_heldTxnResult.f (k + 1) a0 a1 a2 a3) := by
 intro a0 a1 a2 a3 k
 unfold laws_heldTxnResult.f
 repeat' first
   | (with_reducible exact laws_heldTxn.mono _ _ _ _)
   | (with_reducible exact LeO.refl _)
   | (with_reducible exact LeO.none _)
   | (with_reducible refine LeO.ite ?_ ?_)
   | (with_reducible refine LeO.bind ?_ (fun _ => ?_))
   | exact laws_heldTxn.mono _ _ _ _
   | exact LeO.none _
   | refine LeO.ite ?_ ?_
   | refine LeO.bind ?_ (fun _ => ?_)
set_option maxHeartbeats 8000000 in
set_option maxRecDepth 100000 in
theorem laws_heldTxnResult.calls (k : Nat) (a0_0 : Bool) (a0_1 : Int) (A0_2 : Option Addr) (c0_2 : Nat) (l0_2 : List (S55)) (a1 : Int) (r : Int) (w : World) (hr0_2 : Kd.C k55 w A0_2 l0_2.length l0_2) (hc0_2 : l0_2.length ≤ c0_2) (h : laws_heldTxnResult.f k a0_0 a0_1 l0_2 a1 = some r) :
  Calls Tryd.prog 13 #[.agg #[.bool a0_0, .int .i64 a0_1, .slice A0_2 l0_2.length c0_2], .int .i64 a1] w fun e w' => e = .returned (.int .i64 r) ∧ Below w.heap.size w w' := by
 have hu27 := Tryd.underlying27
 have hu25 := Tryd.underlying25
 have HR0_2 := Aside0.mk hr0_2
 have HC0_2 := Aside0.mk hc0_2
 clear hr0_2 hc0_2
 have HB := Aside0.mk (Below.refl w.heap.size w)
 have H : ((laws_heldTxn.f k a0_1 l0_2 a1).bind fun t247 => (if t247 < 0 then (some (-1)) else (some t247))) = some r := h
 clear h
 replace H := Option.bind_eq_some_iff.mp H
 obtain ⟨t247, A30, H⟩ := H
 replace H : (if t247 < 0 then (some (-1)) else (some t247)) = some r := H
 have A3 := Aside0.mk A30
 clear A30
 by_cases c4 : t247 < 0
 ·rw [if_pos c4] at H
  have c4b0 : decide (t247 < 0) = true := decide_eq_true c4
  clear c4
  obtain rfl := Option.some.inj H
  go_enter Tryd.func13, Tryd.ntmps13
  go_wp2_with (first | ((with_reducible refine zw (N := 2) rfl ?_); refine zx ?hg (N := 2) ?hd (cs := #[.bool a0_0, .int .i64 a0_1, .slice A0_2 l0_2.length c0_2]) (t := 27) ?hr ?_; (case hd => rfl); (case hg => rfl); (case hr => first | (go_simp; done) | (go_simp; rfl)); intro zB hg w5 hbox hb; have n0_ := Aside0.mk (zm (by repeat (first | (with_reducible first | exact HB.out | apply zf | apply zc | apply ze) | exact HB.out)) hb); have n1_ := Aside0.mk (hbox); have n2_ := Aside0.mk ((by rw [hg]; exact (zl (by repeat (first | (with_reducible first | exact HB.out | apply zf | apply zc | apply ze) | exact HB.out))) : w.heap.size ≤ zB)); have n3_ := Aside0.mk ((by rw [hg]; exact (zl (by repeat (first | (with_reducible first | exact HB.out | apply zf | apply zc | apply ze) | exact HB.out))) : w.heap.size ≤ zB)); clear HB; have HB := n0_; have zA := n1_; have GW246 := n2_; have zC := n3_; clear n0_ n1_ n2_ n3_; clear hb hbox hg; have zD : w5.cell? ⟨zB, 0, none⟩ = some (.bool a0_0) := (zi zA.out 0).trans rfl; have zE : w5.cell? ⟨zB, 1, none⟩ = some (.int .i64 a0_1) := (zi zA.out 1).trans rfl; have zF : w5.cell? ⟨zB, 2, none⟩ = some (.slice A0_2 l0_2.length c0_2) := (zi zA.out 2).trans rfl; have zG := zd zA.out 0; have zH := zd zA.out 1; have zI := zd zA.out 2) | ((with_reducible refine zn (f := 37) rfl ?_); refine zz (some 8) rfl rfl Tryd.func37 (by kernel_rfl) rfl #[.agg #[.int .i64 a0_1, .slice A0_2 l0_2.length c0_2], .int .i64 a1] rfl (by (try simp only [List.map_toArray, List.map_cons, List.map_nil]); first | done | rfl | (simp only [List.length_drop, List.length_take]; rfl)) ?_; (with_reducible refine (laws_heldTxn.calls k a0_1 _ _ l0_2 a1 t247 _ ?side1 ?side2 A3.out).mono ?_); (case side1 => repeat (first | exact (Kd.C_below HR0_2.out HB.out) | (with_reducible refine Kd.C_alloc ?_ _) | (with_reducible refine Kd.C_drewN ?_ _) | (with_reducible refine Kd.C_drew ?_))); (case side2 => exact HC0_2.out); rintro e w7 ⟨rfl, hb⟩; refine ⟨_, rfl, ?_⟩; have n0_ := Aside0.mk (zt (g := zB) (o := .cells #[.bool a0_0, .int .i64 a0_1, .slice A0_2 l0_2.length c0_2] 27 (0, 0)) (by (with_reducible repeat (first | refine zh ?_ _ | refine zj ?_ | refine zg ?_ _)); exact zA.out) hb); have n1_ := Aside0.mk (zm (by repeat (first | (with_reducible first | exact HB.out | apply zf | apply zc | apply ze | refine zk ?_ zC.out) | exact HB.out)) hb); clear zA; clear HB; have zA := n0_; have HB := n1_; clear n0_ n1_; (try clear hb); (try clear hb2); (try clear hk); (try clear hi)))
  go_ret
  exact ⟨by first | rfl | (simp [errW_none, errW_some] <;> rfl) | (simp [*, errW_none, errW_some] <;> rfl), by repeat (first | (with_reducible first | exact HB.out | apply zf | apply zc | apply ze | refine zk ?_ zC.out) | exact HB.out)⟩
 ·rw [if_neg c4] at H
  have c4b0 : decide (t247 < 0) = false := decide_eq_false c4
  clear c4
  obtain rfl := Option.some.inj H
  go_enter Tryd.func13, Tryd.ntmps13
  go_wp2_with (first | ((with_reducible refine zw (N := 2) rfl ?_); refine zx ?hg (N := 2) ?hd (cs := #[.bool a0_0, .int .i64 a0_1, .slice A0_2 l0_2.length c0_2]) (t := 27) ?hr ?_; (case hd => rfl); (case hg => rfl); (case hr => first | (go_simp; done) | (go_simp; rfl)); intro zB hg w8 hbox hb; have n0_ := Aside0.mk (zm (by repeat (first | (with_reducible first | exact HB.out | apply zf | apply zc | apply ze) | exact HB.out)) hb); have n1_ := Aside0.mk (hbox); have n2_ := Aside0.mk ((by rw [hg]; exact (zl (by repeat (first | (with_reducible first | exact HB.out | apply zf | apply zc | apply ze) | exact HB.out))) : w.heap.size ≤ zB)); have n3_ := Aside0.mk ((by rw [hg]; exact (zl (by repeat (first | (with_reducible first | exact HB.out | apply zf | apply zc | apply ze) | exact HB.out))) : w.heap.size ≤ zB)); clear HB; have HB := n0_; have zA := n1_; have GW246 := n2_; have zC := n3_; clear n0_ n1_ n2_ n3_; clear hb hbox hg; have zJ : w8.cell? ⟨zB, 0, none⟩ = some (.bool a0_0) := (zi zA.out 0).trans rfl; have zK : w8.cell? ⟨zB, 1, none⟩ = some (.int .i64 a0_1) := (zi zA.out 1).trans rfl; have zL : w8.cell? ⟨zB, 2, none⟩ = some (.slice A0_2 l0_2.length c0_2) := (zi zA.out 2).trans rfl; have zM := zd zA.out 0; have zN := zd zA.out 1; have zO := zd zA.out 2) | ((with_reducible refine zn (f := 37) rfl ?_); refine zz (some 8) rfl rfl Tryd.func37 (by kernel_rfl) rfl #[.agg #[.int .i64 a0_1, .slice A0_2 l0_2.length c0_2], .int .i64 a1] rfl (by (try simp only [List.map_toArray, List.map_cons, List.map_nil]); first | done | rfl | (simp only [List.length_drop, List.length_take]; rfl)) ?_; (with_reducible refine (laws_heldTxn.calls k a0_1 _ _ l0_2 a1 t247 _ ?side1 ?side2 A3.out).mono ?_); (case side1 => repeat (first | exact (Kd.C_below HR0_2.out HB.out) | (with_reducible refine Kd.C_alloc ?_ _) | (with_reducible refine Kd.C_drewN ?_ _) | (with_reducible refine Kd.C_drew ?_))); (case side2 => exact HC0_2.out); rintro e w10 ⟨rfl, hb⟩; refine ⟨_, rfl, ?_⟩; have n0_ := Aside0.mk (zt (g := zB) (o := .cells #[.bool a0_0, .int .i64 a0_1, .slice A0_2 l0_2.length c0_2] 27 (0, 0)) (by (with_reducible repeat (first | refine zh ?_ _ | refine zj ?_ | refine zg ?_ _)); exact zA.out) hb); have n1_ := Aside0.mk (zm (by repeat (first | (with_reducible first | exact HB.out | apply zf | apply zc | apply ze | refine zk ?_ zC.out) | exact HB.out)) hb); clear zA; clear HB; have zA := n0_; have HB := n1_; clear n0_ n1_; (try clear hb); (try clear hb2); (try clear hk); (try clear hi)))
  go_ret
  exact ⟨by first | rfl | (simp [errW_none, errW_some] <;> rfl) | (simp [*, errW_none, errW_some] <;> rfl), by repeat (first | (with_reducible first | exact HB.out | apply zf | apply zc | apply ze | refine zk ?_ zC.out) | exact HB.out)⟩

def laws_FnExactDecodeTxn.j0 : Nat → List Int → Bool → Bool → Int → List (S55) → Bool → Int → List (S55) → Option (Bool)
 | 0, _, _, _, _, _, _, _, _ => none
 | k + 1, x0, x39, x257000, x257001, x257002, x266000, x266001, x266002 => if x39 = true then none else ((laws_markTxnResult.f k x266000 x266001 x266002 1).bind fun bt274 => ((laws_heldTxnResult.f k x266000 x266001 bt274.2 1).bind fun t276 => (if t276 < 0 then none else (if t276 = bt274.1 then ((laws_toByteS.f k x0).bind fun t277 => ((impl_DecodeTxn.f k t277).bind fun bt280 => ((laws_eqTxnResult.f k bt280.1 bt280.2.1 bt280.2.2 x257000 x257001 x257002).bind fun t286 => (if t286 = true then (some true) else none)))) else none))))
def laws_FnExactDecodeTxn.f (k : Nat) (l0 : List Int) : Option (Bool) := if (l0.length : Int) > 1048576 then (some true) else ((laws_toByteS.f k l0).bind fun t248 => ((spec_DecodeTxn.f k t248).bind fun bt251 => ((laws_toByteS.f k l0).bind fun t257 => ((impl_DecodeTxn.f k t257).bind fun bt260 => ((laws_eqTxnResult.f k bt260.1 bt260.2.1 bt260.2.2 bt251.1 bt251.2.1 bt251.2.2).bind fun t266 => (if t266 = true then ((laws_toByteS.f k l0).bind fun t267 => ((laws_eqByteS.f k t257 t267).bind fun t270 => (if t270 = true then ((laws_markByteS.f k t257 1).bind fun bt271 => (if bt271.1 < 0 then (laws_FnExactDecodeTxn.j0 k l0 true bt251.1 bt251.2.1 bt251.2.2 bt260.1 bt260.2.1 bt260.2.2) else ((laws_eqTxnResult.f k bt260.1 bt260.2.1 bt260.2.2 bt251.1 bt251.2.1 bt251.2.2).bind fun t273 => (laws_FnExactDecodeTxn.j0 k l0 (!t273) bt251.1 bt251.2.1 bt251.2.2 bt260.1 bt260.2.1 bt260.2.2)))) else none))) else none))))))
theorem laws_FnExactDecodeTxn.mono_l : ∀ k, (∀ y0 y1 y2 y3 y4 y5 y6 y7, LeO (laws_FnExactDecodeTxn.j0 k y0 y1 y2 y3 y4 y5 y6 y7) (laws_FnExactDecodeTxn.j0 (k + 1) y0 y1 y2 y3 y4 y5 y6 y7))
 | 0 => fun _ _ _ _ _ _ _ _ r h => by simp [laws_FnExactDecodeTxn.j0] at h
 | k + 1 => by
  have ih0 := laws_FnExactDecodeTxn.mono_l k
  ·intro y0 y1 y2 y3 y4 y5 y6 y7
   unfold laws_FnExactDecodeTxn.j0
   repeat' first
   | (with_reducible exact ih0 _ _ _ _ _ _ _ _)
   | (with_reducible exact impl_DecodeTxn.mono _ _)
   | (with_reducible exact laws_eqByteS.mono _ _ _)
   | (with_reducible exact laws_eqTxnResult.mono _ _ _ _ _ _ _)
   | (with_reducible exact laws_heldTxnResult.mono _ _ _ _ _)
   | (with_reducible exact laws_markByteS.mono _ _ _)
   | (with_reducible exact laws_markTxnResult.mono _ _ _ _ _)
   | (with_reducible exact laws_toByteS.mono _ _)
   | (with_reducible exact spec_DecodeTxn.mono _ _)
   | (with_reducible exact LeO.refl _)
   | (with_reducible exact LeO.none _)
   | (with_reducible refine LeO.ite ?_ ?_)
   | (with_reducible refine LeO.bind ?_ (fun _ => ?_))
   | exact ih0 _ _ _ _ _ _ _ _
   | exact impl_DecodeTxn.mono _ _
   | exact laws_eqByteS.mono _ _ _
   | exact laws_eqTxnResult.mono _ _ _ _ _ _ _
   | exact laws_heldTxnResult.mono _ _ _ _ _
   | exact laws_markByteS.mono _ _ _
   | exact laws_markTxnResult.mono _ _ _ _ _
   | exact laws_toByteS.mono _ _
   | exact spec_DecodeTxn.mono _ _
   | exact LeO.none _
   | refine LeO.ite ?_ ?_
   | refine LeO.bind ?_ (fun _ => ?_)
theorem laws_FnExactDecodeTxn.mono : ∀ a0 k, LeO (laws_FnExactDecodeTxn.f k a0) (laws_FnExactDecodeTxn.f (k + 1) a0) := by
 intro a0 k
 have ih0 := laws_FnExactDecodeTxn.mono_l k
 unfold laws_FnExactDecodeTxn.f
 repeat' first
   | (with_reducible exact ih0 _ _ _ _ _ _ _ _)
   | (with_reducible exact impl_DecodeTxn.mono _ _)
   | (with_reducible exact laws_eqByteS.mono _ _ _)
   | (with_reducible exact laws_eqTxnResult.mono _ _ _ _ _ _ _)
   | (with_reducible exact laws_heldTxnResult.mono _ _ _ _ _)
   | (with_reducible exact laws_markByteS.mono _ _ _)
   | (with_reducible exact laws_markTxnResult.mono _ _ _ _ _)
   | (with_reducible exact laws_toByteS.mono _ _)
   | (with_reducible exact spec_DecodeTxn.mono _ _)
   | (with_reducible exact LeO.refl _)
   | (with_reducible exact LeO.none _)
   | (with_reducible refine LeO.ite ?_ ?_)
   | (with_reducible refine LeO.bind ?_ (fun _ => ?_))
   | exact ih0 _ _ _ _ _ _ _ _
   | exact impl_DecodeTxn.mono _ _
   | exact laws_eqByteS.mono _ _ _
   | exact laws_eqTxnResult.mono _ _ _ _ _ _ _
   | exact laws_heldTxnResult.mono _ _ _ _ _
   | exact laws_markByteS.mono _ _ _
   | exact laws_markTxnResult.mono _ _ _ _ _
   | exact laws_toByteS.mono _ _
   | exact spec_DecodeTxn.mono _ _
   | exact LeO.none _
   | refine LeO.ite ?_ ?_
   | refine LeO.bind ?_ (fun _ => ?_)
set_option maxHeartbeats 8000000 in
set_option maxRecDepth 100000 in
theorem laws_FnExactDecodeTxn.calls (k : Nat) (A0 : Option Addr) (c0 : Nat) (l0 : List Int) (r : Bool) (w : World) (hr0 : Kd.C (Kd.int .u8) w A0 l0.length l0) (hc0 : l0.length ≤ c0) (h : laws_FnExactDecodeTxn.f k l0 = some r) (hGMAX_ : Go.Proofs.YtejecjjimggjeaaDoorH.GFMAX w) :
  Calls Tryd.prog 3 #[.slice A0 l0.length c0] w fun e w' => e = .returned (.bool r) ∧ Below w.heap.size w w' := by
 have HGMAX_ := Aside0.mk hGMAX_
 clear hGMAX_
 have hu27 := Tryd.underlying27
 have HR0 := Aside0.mk hr0
 have HC0 := Aside0.mk hc0
 clear hr0 hc0
 have HB := Aside0.mk (Below.refl w.heap.size w)
 have H : (if (l0.length : Int) > 1048576 then (some true) else ((laws_toByteS.f k l0).bind fun t248 => ((spec_DecodeTxn.f k t248).bind fun bt251 => ((laws_toByteS.f k l0).bind fun t257 => ((impl_DecodeTxn.f k t257).bind fun bt260 => ((laws_eqTxnResult.f k bt260.1 bt260.2.1 bt260.2.2 bt251.1 bt251.2.1 bt251.2.2).bind fun t266 => (if t266 = true then ((laws_toByteS.f k l0).bind fun t267 => ((laws_eqByteS.f k t257 t267).bind fun t270 => (if t270 = true then ((laws_markByteS.f k t257 1).bind fun bt271 => (if bt271.1 < 0 then (laws_FnExactDecodeTxn.j0 k l0 true bt251.1 bt251.2.1 bt251.2.2 bt260.1 bt260.2.1 bt260.2.2) else ((laws_eqTxnResult.f k bt260.1 bt260.2.1 bt260.2.2 bt251.1 bt251.2.1 bt251.2.2).bind fun t273 => (laws_FnExactDecodeTxn.j0 k l0 (!t273) bt251.1 bt251.2.1 bt251.2.2 bt260.1 bt260.2.1 bt260.2.2)))) else none))) else none))))))) = some r := h
 clear h
 by_cases c2 : (l0.length : Int) > 1048576
 ·rw [if_pos c2] at H
  have c2b0 : decide (1048576 < (l0.length : Int)) = true := decide_eq_true c2
  have c2b1 : decide (1048576 < l0.length) = true := decide_eq_true (by omega)
  clear c2
  obtain rfl := Option.some.inj H
  go_enter Tryd.func3, Tryd.ntmps3
  go_wp2
  go_ret
  exact ⟨by first | rfl | (simp [errW_none, errW_some] <;> rfl) | (simp [*, errW_none, errW_some] <;> rfl), by repeat (first | (with_reducible first | exact HB.out | apply zf | apply zc | apply ze) | exact HB.out)⟩
 ·rw [if_neg c2] at H
  have c2b0 : decide (1048576 < (l0.length : Int)) = false := decide_eq_false c2
  have c2b1 : decide (1048576 < l0.length) = false := decide_eq_false (by omega)
  clear c2
  replace H := Option.bind_eq_some_iff.mp H
  obtain ⟨t248, A30, H⟩ := H
  replace H : ((spec_DecodeTxn.f k t248).bind fun bt251 => ((laws_toByteS.f k l0).bind fun t257 => ((impl_DecodeTxn.f k t257).bind fun bt260 => ((laws_eqTxnResult.f k bt260.1 bt260.2.1 bt260.2.2 bt251.1 bt251.2.1 bt251.2.2).bind fun t266 => (if t266 = true then ((laws_toByteS.f k l0).bind fun t267 => ((laws_eqByteS.f k t257 t267).bind fun t270 => (if t270 = true then ((laws_markByteS.f k t257 1).bind fun bt271 => (if bt271.1 < 0 then (laws_FnExactDecodeTxn.j0 k l0 true bt251.1 bt251.2.1 bt251.2.2 bt260.1 bt260.2.1 bt260.2.2) else ((laws_eqTxnResult.f k bt260.1 bt260.2.1 bt260.2.2 bt251.1 bt251.2.1 bt251.2.2).bind fun t273 => (laws_FnExactDecodeTxn.j0 k l0 (!t273) bt251.1 bt251.2.1 bt251.2.2 bt260.1 bt260.2.1 bt260.2.2)))) else none))) else none))))) = some r := H
  have A3 := Aside0.mk A30
  clear A30
  replace H := Option.bind_eq_some_iff.mp H
  obtain ⟨⟨t251, t252, t253⟩, A40, H⟩ := H
  replace H : ((laws_toByteS.f k l0).bind fun t257 => ((impl_DecodeTxn.f k t257).bind fun bt260 => ((laws_eqTxnResult.f k bt260.1 bt260.2.1 bt260.2.2 t251 t252 t253).bind fun t266 => (if t266 = true then ((laws_toByteS.f k l0).bind fun t267 => ((laws_eqByteS.f k t257 t267).bind fun t270 => (if t270 = true then ((laws_markByteS.f k t257 1).bind fun bt271 => (if bt271.1 < 0 then (laws_FnExactDecodeTxn.j0 k l0 true t251 t252 t253 bt260.1 bt260.2.1 bt260.2.2) else ((laws_eqTxnResult.f k bt260.1 bt260.2.1 bt260.2.2 t251 t252 t253).bind fun t273 => (laws_FnExactDecodeTxn.j0 k l0 (!t273) t251 t252 t253 bt260.1 bt260.2.1 bt260.2.2)))) else none))) else none)))) = some r := H
  have A4 := Aside0.mk A40
  clear A40
  replace H := Option.bind_eq_some_iff.mp H
  obtain ⟨t257, A50, H⟩ := H
  replace H : ((impl_DecodeTxn.f k t257).bind fun bt260 => ((laws_eqTxnResult.f k bt260.1 bt260.2.1 bt260.2.2 t251 t252 t253).bind fun t266 => (if t266 = true then ((laws_toByteS.f k l0).bind fun t267 => ((laws_eqByteS.f k t257 t267).bind fun t270 => (if t270 = true then ((laws_markByteS.f k t257 1).bind fun bt271 => (if bt271.1 < 0 then (laws_FnExactDecodeTxn.j0 k l0 true t251 t252 t253 bt260.1 bt260.2.1 bt260.2.2) else ((laws_eqTxnResult.f k bt260.1 bt260.2.1 bt260.2.2 t251 t252 t253).bind fun t273 => (laws_FnExactDecodeTxn.j0 k l0 (!t273) t251 t252 t253 bt260.1 bt260.2.1 bt260.2.2)))) else none))) else none))) = some r := H
  have A5 := Aside0.mk A50
  clear A50
  replace H := Option.bind_eq_some_iff.mp H
  obtain ⟨⟨t260, t261, t262⟩, A60, H⟩ := H
  replace H : ((laws_eqTxnResult.f k t260 t261 t262 t251 t252 t253).bind fun t266 => (if t266 = true then ((laws_toByteS.f k l0).bind fun t267 => ((laws_eqByteS.f k t257 t267).bind fun t270 => (if t270 = true then ((laws_markByteS.f k t257 1).bind fun bt271 => (if bt271.1 < 0 then (laws_FnExactDecodeTxn.j0 k l0 true t251 t252 t253 t260 t261 t262) else ((laws_eqTxnResult.f k t260 t261 t262 t251 t252 t253).bind fun t273 => (laws_FnExactDecodeTxn.j0 k l0 (!t273) t251 t252 t253 t260 t261 t262)))) else none))) else none)) = some r := H
  have A6 := Aside0.mk A60
  clear A60
  replace H := Option.bind_eq_some_iff.mp H
  obtain ⟨t266, A70, H⟩ := H
  replace H : (if t266 = true then ((laws_toByteS.f k l0).bind fun t267 => ((laws_eqByteS.f k t257 t267).bind fun t270 => (if t270 = true then ((laws_markByteS.f k t257 1).bind fun bt271 => (if bt271.1 < 0 then (laws_FnExactDecodeTxn.j0 k l0 true t251 t252 t253 t260 t261 t262) else ((laws_eqTxnResult.f k t260 t261 t262 t251 t252 t253).bind fun t273 => (laws_FnExactDecodeTxn.j0 k l0 (!t273) t251 t252 t253 t260 t261 t262)))) else none))) else none) = some r := H
  have A7 := Aside0.mk A70
  clear A70
  by_cases c8 : t266 = true
  ·subst c8
   have H1 : ((laws_toByteS.f k l0).bind fun t267 => ((laws_eqByteS.f k t257 t267).bind fun t270 => (if t270 = true then ((laws_markByteS.f k t257 1).bind fun bt271 => (if bt271.1 < 0 then (laws_FnExactDecodeTxn.j0 k l0 true t251 t252 t253 t260 t261 t262) else ((laws_eqTxnResult.f k t260 t261 t262 t251 t252 t253).bind fun t273 => (laws_FnExactDecodeTxn.j0 k l0 (!t273) t251 t252 t253 t260 t261 t262)))) else none))) = some r := by rw [if_pos rfl] at H; exact H
   clear H
   have H := H1
   clear H1
   replace H := Option.bind_eq_some_iff.mp H
   obtain ⟨t267, A90, H⟩ := H
   replace H : ((laws_eqByteS.f k t257 t267).bind fun t270 => (if t270 = true then ((laws_markByteS.f k t257 1).bind fun bt271 => (if bt271.1 < 0 then (laws_FnExactDecodeTxn.j0 k l0 true t251 t252 t253 t260 t261 t262) else ((laws_eqTxnResult.f k t260 t261 t262 t251 t252 t253).bind fun t273 => (laws_FnExactDecodeTxn.j0 k l0 (!t273) t251 t252 t253 t260 t261 t262)))) else none)) = some r := H
   have A9 := Aside0.mk A90
   clear A90
   replace H := Option.bind_eq_some_iff.mp H
   obtain ⟨t270, A100, H⟩ := H
   replace H : (if t270 = true then ((laws_markByteS.f k t257 1).bind fun bt271 => (if bt271.1 < 0 then (laws_FnExactDecodeTxn.j0 k l0 true t251 t252 t253 t260 t261 t262) else ((laws_eqTxnResult.f k t260 t261 t262 t251 t252 t253).bind fun t273 => (laws_FnExactDecodeTxn.j0 k l0 (!t273) t251 t252 t253 t260 t261 t262)))) else none) = some r := H
   have A10 := Aside0.mk A100
   clear A100
   by_cases c11 : t270 = true
   ·subst c11
    have H1 : ((laws_markByteS.f k t257 1).bind fun bt271 => (if bt271.1 < 0 then (laws_FnExactDecodeTxn.j0 k l0 true t251 t252 t253 t260 t261 t262) else ((laws_eqTxnResult.f k t260 t261 t262 t251 t252 t253).bind fun t273 => (laws_FnExactDecodeTxn.j0 k l0 (!t273) t251 t252 t253 t260 t261 t262)))) = some r := by rw [if_pos rfl] at H; exact H
    clear H
    have H := H1
    clear H1
    replace H := Option.bind_eq_some_iff.mp H
    obtain ⟨⟨t271, t272⟩, A120, H⟩ := H
    replace H : (if t271 < 0 then (laws_FnExactDecodeTxn.j0 k l0 true t251 t252 t253 t260 t261 t262) else ((laws_eqTxnResult.f k t260 t261 t262 t251 t252 t253).bind fun t273 => (laws_FnExactDecodeTxn.j0 k l0 (!t273) t251 t252 t253 t260 t261 t262))) = some r := H
    have A12 := Aside0.mk A120
    clear A120
    have HC13 := Aside0.mk H
    clear H
    go_enter Tryd.func3, Tryd.ntmps3
    go_upto_region 12 with (first | ((with_reducible refine zn (f := 7) rfl ?_); refine zz (some 14) rfl rfl Tryd.func7 (by kernel_rfl) rfl #[.slice A0 l0.length c0] rfl (by (try simp only [List.map_toArray, List.map_cons, List.map_nil]); first | done | rfl | (simp only [List.length_drop, List.length_take]; rfl)) ?_; (with_reducible refine (laws_toByteS.calls k _ _ l0 t248 _ ?side1 ?side2 A3.out).mono ?_); (case side1 => repeat (first | exact HR0.out | (with_reducible refine Kd.C_alloc ?_ _) | (with_reducible refine Kd.C_drewN ?_ _) | (with_reducible refine Kd.C_drew ?_))); (case side2 => exact HC0.out); rintro e w14 ⟨v249, rfl, zN, hb⟩; refine ⟨_, rfl, ?_⟩; have n0_ := Aside0.mk (Kd.R_lower zN (zl (by repeat (first | (with_reducible first | exact HB.out | apply zf | apply zc | apply ze) | exact HB.out)))); have n1_ := Aside0.mk (zm (by repeat (first | (with_reducible first | exact HB.out | apply zf | apply zc | apply ze) | exact HB.out)) hb); clear HB; have zG := n0_; have HB := n1_; clear n0_ n1_; (try clear hb); (try clear hb2); (try clear hk); (try clear hi); (try clear zN); obtain ⟨Ao15, co15, eo15⟩ := Kd.R_slice zG.out; subst eo15) | ((with_reducible refine zn (f := 6) rfl ?_); refine zz (some 15) rfl rfl Tryd.func6 (by kernel_rfl) rfl #[.slice Ao15 t248.length co15] rfl (by (try simp only [List.map_toArray, List.map_cons, List.map_nil]); first | done | rfl | (simp only [List.length_drop, List.length_take]; rfl)) ?_; (with_reducible refine (spec_DecodeTxn.calls k _ _ t248 t251 t252 t253 _ ?side1 ?side2 A4.out).mono ?_); (case side1 => repeat (first | exact (Kd.R_reads' zG.out).2.2 | (with_reducible refine Kd.C_alloc ?_ _) | (with_reducible refine Kd.C_drewN ?_ _) | (with_reducible refine Kd.C_drew ?_))); (case side2 => exact (Kd.R_reads' zG.out).2.1); rintro e w16 ⟨v254, rfl, zN, hb⟩; refine ⟨_, rfl, ?_⟩; have n0_ := Aside0.mk (Kd.R_below (by (with_reducible repeat (first | apply Kd.R_alloc | apply Kd.R_drewN | apply Kd.R_drew)); exact zG.out) hb); have n1_ := Aside0.mk (Kd.R_lower zN (zl (by repeat (first | (with_reducible first | exact HB.out | apply zf | apply zc | apply ze) | exact HB.out)))); have n2_ := Aside0.mk (zm (by repeat (first | (with_reducible first | exact HB.out | apply zf | apply zc | apply ze) | exact HB.out)) hb); clear zG; clear HB; have zG := n0_; have zH := n1_; have HB := n2_; clear n0_ n1_ n2_; (try clear hb); (try clear hb2); (try clear hk); (try clear hi); (try clear zN)) | ((with_reducible refine zw (N := 3) rfl ?_); refine zx ?hg (N := 3) ?hd (cs := #[.bool false, .int .i64 0, .slice none 0 0]) (t := 27) ?hr ?_; (case hd => rfl); (case hg => rfl); (case hr => first | (go_simp; done) | (go_simp; rfl)); intro zE hg w17 hbox hb; have n0_ := Aside0.mk (Kd.R_below (by (with_reducible repeat (first | apply Kd.R_alloc | apply Kd.R_drewN | apply Kd.R_drew)); exact zG.out) hb); have n1_ := Aside0.mk (Kd.R_below (by (with_reducible repeat (first | apply Kd.R_alloc | apply Kd.R_drewN | apply Kd.R_drew)); exact zH.out) hb); have n2_ := Aside0.mk (zm (by repeat (first | (with_reducible first | exact HB.out | apply zf | apply zc | apply ze) | exact HB.out)) hb); have n3_ := Aside0.mk (hbox); have n4_ := Aside0.mk ((by rw [hg]; exact (zl (by repeat (first | (with_reducible first | exact HB.out | apply zf | apply zc | apply ze) | exact HB.out))) : w.heap.size ≤ zE)); have n5_ := Aside0.mk ((by rw [hg]; exact (zl (by repeat (first | (with_reducible first | exact HB.out | apply zf | apply zc | apply ze) | exact HB.out))) : w.heap.size ≤ zE)); clear zG; clear zH; clear HB; have zG := n0_; have zH := n1_; have HB := n2_; have zA := n3_; have GW256 := n4_; have zK := n5_; clear n0_ n1_ n2_ n3_ n4_ n5_; clear hb hbox hg; have zZ : w17.cell? ⟨zE, 0, none⟩ = some (.bool false) := (zi zA.out 0).trans rfl; have zab : w17.cell? ⟨zE, 1, none⟩ = some (.int .i64 0) := (zi zA.out 1).trans rfl; have zbb : w17.cell? ⟨zE, 2, none⟩ = some (.slice none 0 0) := (zi zA.out 2).trans rfl; have zcb := zd zA.out 0; have zdb := zd zA.out 1; have zeb := zd zA.out 2; obtain ⟨Ao19, co19, eo19⟩ := Kd.R_slice zH.out; subst eo19) | ((with_reducible refine zn (f := 7) rfl ?_); refine zz (some 17) rfl rfl Tryd.func7 (by kernel_rfl) rfl #[.slice A0 l0.length c0] rfl (by (try simp only [List.map_toArray, List.map_cons, List.map_nil]); first | done | rfl | (simp only [List.length_drop, List.length_take]; rfl)) ?_; (with_reducible refine (laws_toByteS.calls k _ _ l0 t257 _ ?side1 ?side2 A5.out).mono ?_); (case side1 => exact Kd.C_below HR0.out (by repeat (first | (with_reducible first | exact HB.out | apply zf | apply zc | apply ze | refine zk ?_ zK.out) | exact HB.out))); (case side2 => exact HC0.out); rintro e w20 ⟨v258, rfl, zN, hb⟩; refine ⟨_, rfl, ?_⟩; have n0_ := Aside0.mk (Kd.R_elder' (by (with_reducible repeat (first | apply Kd.R_alloc | apply Kd.R_drewN | apply Kd.R_drew)); exact (Kd.R_mono (Kd.R_far (p := ⟨zE, 2, none⟩) (Kd.R_far (p := ⟨zE, 1, none⟩) (Kd.R_far (p := ⟨zE, 0, none⟩) (Kd.R_types zG.out zA.out (by decide)) (fun _ hk => hk.2) (.bool t251)) (fun _ hk => hk.2) (.int .i64 t252)) (fun _ hk => hk.2) (.slice Ao19 t253.length co19)) (fun _ h_ => h_.1))) (Kd.R_base zN) hb); have n1_ := Aside0.mk (Kd.R_below (by (with_reducible repeat (first | apply Kd.R_alloc | apply Kd.R_drewN | apply Kd.R_drew)); exact (Kd.R_mono (Kd.R_far (p := ⟨zE, 2, none⟩) (Kd.R_far (p := ⟨zE, 1, none⟩) (Kd.R_far (p := ⟨zE, 0, none⟩) (Kd.R_types zH.out zA.out (by decide)) (fun _ hk => hk.2) (.bool t251)) (fun _ hk => hk.2) (.int .i64 t252)) (fun _ hk => hk.2) (.slice Ao19 t253.length co19)) (fun _ h_ => h_.1))) hb); have n2_ := Aside0.mk (Kd.R_lower (Kd.R_new' zN (Kd.R_lt (by (with_reducible repeat (first | apply Kd.R_alloc | apply Kd.R_drewN | apply Kd.R_drew)); exact (Kd.R_mono (Kd.R_far (p := ⟨zE, 2, none⟩) (Kd.R_far (p := ⟨zE, 1, none⟩) (Kd.R_far (p := ⟨zE, 0, none⟩) (Kd.R_types zG.out zA.out (by decide)) (fun _ hk => hk.2) (.bool t251)) (fun _ hk => hk.2) (.int .i64 t252)) (fun _ hk => hk.2) (.slice Ao19 t253.length co19)) (fun _ h_ => h_.1))))) (zl (by repeat (first | (with_reducible first | exact HB.out | apply zf | apply zc | apply ze | refine zk ?_ zK.out) | exact HB.out)))); have n3_ := Aside0.mk (zt (g := zE) (o := .cells #[.bool t251, .int .i64 t252, .slice Ao19 t253.length co19] 27 (0, 0)) (by (with_reducible repeat (first | refine zh ?_ _ | refine zj ?_ | refine zg ?_ _)); refine zq (cs := #[.bool t251, .int .i64 t252, .slice none 0 0]) ?_ 2 _ rfl; (with_reducible repeat (first | refine zh ?_ _ | refine zj ?_ | refine zg ?_ _)); refine zq (cs := #[.bool t251, .int .i64 0, .slice none 0 0]) ?_ 1 _ rfl; (with_reducible repeat (first | refine zh ?_ _ | refine zj ?_ | refine zg ?_ _)); refine zq (cs := #[.bool false, .int .i64 0, .slice none 0 0]) ?_ 0 _ rfl; (with_reducible repeat (first | refine zh ?_ _ | refine zj ?_ | refine zg ?_ _)); exact zA.out) hb); have n4_ := Aside0.mk (zm (by repeat (first | (with_reducible first | exact HB.out | apply zf | apply zc | apply ze | refine zk ?_ zK.out) | exact HB.out)) hb); clear zG; clear zH; clear zA; clear HB; have zG := n0_; have zH := n1_; have zI := n2_; have zA := n3_; have HB := n4_; clear n0_ n1_ n2_ n3_ n4_; (try clear hb); (try clear hb2); (try clear hk); (try clear hi); (try clear zN); obtain ⟨Ao21, co21, eo21⟩ := Kd.R_slice zI.out; subst eo21) | ((with_reducible refine zn (f := 8) rfl ?_); refine zz (some 19) rfl rfl Tryd.func8 (by kernel_rfl) rfl #[.slice Ao21 t257.length co21] rfl (by (try simp only [List.map_toArray, List.map_cons, List.map_nil]); first | done | rfl | (simp only [List.length_drop, List.length_take]; rfl)) ?_; (with_reducible refine (impl_DecodeTxn.calls k _ _ t257 t260 t261 t262 _ ?side1 ?side2 A6.out ?globMAX_).mono ?_); (case globMAX_ => exact Go.Proofs.YtejecjjimggjeaaDoorH.GFMAX.below HGMAX_.out (by repeat (first | (with_reducible first | exact HB.out | exact Below.refl _ _ | apply zf | apply zc | apply ze | refine zk ?_ (Aside0.out (by assumption))) | exact HB.out))); (case side1 => repeat (first | exact (Kd.R_reads' zI.out).2.2 | (with_reducible refine Kd.C_alloc ?_ _) | (with_reducible refine Kd.C_drewN ?_ _) | (with_reducible refine Kd.C_drew ?_))); (case side2 => exact (Kd.R_reads' zI.out).2.1); rintro e w22 ⟨v263, rfl, zN, hb⟩; refine ⟨_, rfl, ?_⟩; have n0_ := Aside0.mk (Kd.R_below (by (with_reducible repeat (first | apply Kd.R_alloc | apply Kd.R_drewN | apply Kd.R_drew)); exact zG.out) hb); have n1_ := Aside0.mk (Kd.R_elder' (by (with_reducible repeat (first | apply Kd.R_alloc | apply Kd.R_drewN | apply Kd.R_drew)); exact zH.out) (Kd.R_base zN) hb); have n2_ := Aside0.mk (Kd.R_below (by (with_reducible repeat (first | apply Kd.R_alloc | apply Kd.R_drewN | apply Kd.R_drew)); exact zI.out) hb); have n3_ := Aside0.mk (Kd.R_lower (Kd.R_new' zN (Kd.R_lt (by (with_reducible repeat (first | apply Kd.R_alloc | apply Kd.R_drewN | apply Kd.R_drew)); exact zH.out))) (zl (by repeat (first | (with_reducible first | exact HB.out | apply zf | apply zc | apply ze | refine zk ?_ zK.out) | exact HB.out)))); have n4_ := Aside0.mk (zt (g := zE) (o := .cells #[.bool t251, .int .i64 t252, .slice Ao19 t253.length co19] 27 (0, 0)) (by (with_reducible repeat (first | refine zh ?_ _ | refine zj ?_ | refine zg ?_ _)); exact zA.out) hb); have n5_ := Aside0.mk (zm (by repeat (first | (with_reducible first | exact HB.out | apply zf | apply zc | apply ze | refine zk ?_ zK.out) | exact HB.out)) hb); clear zG; clear zH; clear zI; clear zA; clear HB; have zG := n0_; have zH := n1_; have zI := n2_; have zL := n3_; have zA := n4_; have HB := n5_; clear n0_ n1_ n2_ n3_ n4_ n5_; (try clear hb); (try clear hb2); (try clear hk); (try clear hi); (try clear zN)) | ((with_reducible refine zw (N := 5) rfl ?_); refine zx ?hg (N := 5) ?hd (cs := #[.bool false, .int .i64 0, .slice none 0 0]) (t := 27) ?hr ?_; (case hd => rfl); (case hg => rfl); (case hr => first | (go_simp; done) | (go_simp; rfl)); intro zD hg w23 hbox hb; have n0_ := Aside0.mk (Kd.R_below (by (with_reducible repeat (first | apply Kd.R_alloc | apply Kd.R_drewN | apply Kd.R_drew)); exact zG.out) hb); have n1_ := Aside0.mk (Kd.R_below (by (with_reducible repeat (first | apply Kd.R_alloc | apply Kd.R_drewN | apply Kd.R_drew)); exact zH.out) hb); have n2_ := Aside0.mk (Kd.R_below (by (with_reducible repeat (first | apply Kd.R_alloc | apply Kd.R_drewN | apply Kd.R_drew)); exact zI.out) hb); have n3_ := Aside0.mk (Kd.R_below (by (with_reducible repeat (first | apply Kd.R_alloc | apply Kd.R_drewN | apply Kd.R_drew)); exact zL.out) hb); have n4_ := Aside0.mk (zt (g := zE) (o := .cells #[.bool t251, .int .i64 t252, .slice Ao19 t253.length co19] 27 (0, 0)) (by (with_reducible repeat (first | refine zh ?_ _ | refine zj ?_ | refine zg ?_ _)); exact zA.out) hb); have n5_ := Aside0.mk (zm (by repeat (first | (with_reducible first | exact HB.out | apply zf | apply zc | apply ze | refine zk ?_ zK.out) | exact HB.out)) hb); have n6_ := Aside0.mk (hbox); have n7_ := Aside0.mk ((by rw [hg]; exact (zl (by repeat (first | (with_reducible first | exact HB.out | apply zf | apply zc | apply ze | refine zk ?_ zK.out) | exact HB.out))) : w.heap.size ≤ zD)); have n8_ := Aside0.mk ((by rw [hg]; exact (zl (by repeat (first | (with_reducible first | exact HB.out | apply zf | apply zc | apply ze | refine zk ?_ zK.out) | exact HB.out))) : w.heap.size ≤ zD)); have n9_ := Aside0.mk ((by rw [hg]; exact Nat.ne_of_lt (zy (g := zE) (o := .cells #[.bool t251, .int .i64 t252, .slice Ao19 t253.length co19] 27 (0, 0)) (by (with_reducible repeat (first | refine zh ?_ _ | refine zj ?_ | refine zg ?_ _)); exact zA.out)) : zE ≠ zD)); have n10_ := Aside0.mk ((by rw [hg]; exact Nat.ne_of_gt (zy (g := zE) (o := .cells #[.bool t251, .int .i64 t252, .slice Ao19 t253.length co19] 27 (0, 0)) (by (with_reducible repeat (first | refine zh ?_ _ | refine zj ?_ | refine zg ?_ _)); exact zA.out)) : zD ≠ zE)); clear zG; clear zH; clear zI; clear zL; clear zA; clear HB; have zG := n0_; have zH := n1_; have zI := n2_; have zL := n3_; have zA := n4_; have HB := n5_; have zB := n6_; have GW265 := n7_; have zM := n8_; have zQ := n9_; have zV := n10_; clear n0_ n1_ n2_ n3_ n4_ n5_ n6_ n7_ n8_ n9_ n10_; clear hb hbox hg; have zbc := zV.out; have zcc := zQ.out; have zfb : w23.cell? ⟨zD, 0, none⟩ = some (.bool false) := (zi zB.out 0).trans rfl; have zgb : w23.cell? ⟨zD, 1, none⟩ = some (.int .i64 0) := (zi zB.out 1).trans rfl; have zhb : w23.cell? ⟨zD, 2, none⟩ = some (.slice none 0 0) := (zi zB.out 2).trans rfl; have zib := zd zB.out 0; have zjb := zd zB.out 1; have zkb := zd zB.out 2; obtain ⟨Ao26, co26, eo26⟩ := Kd.R_slice zL.out; subst eo26; have zlb : w23.cell? ⟨zE, 0, none⟩ = some (.bool t251) := (zi zA.out 0).trans rfl; have zmb : w23.cell? ⟨zE, 1, none⟩ = some (.int .i64 t252) := (zi zA.out 1).trans rfl; have znb : w23.cell? ⟨zE, 2, none⟩ = some (.slice Ao19 t253.length co19) := (zi zA.out 2).trans rfl; have zob := zd zA.out 0; have zpb := zd zA.out 1; have zqb := zd zA.out 2) | ((with_reducible refine zn (f := 9) rfl ?_); refine zz (some 22) rfl rfl Tryd.func9 (by kernel_rfl) rfl #[.agg #[.bool t260, .int .i64 t261, .slice Ao26 t262.length co26], .agg #[.bool t251, .int .i64 t252, .slice Ao19 t253.length co19]] rfl (by (try simp only [List.map_toArray, List.map_cons, List.map_nil]); first | done | rfl | (simp only [List.length_drop, List.length_take]; rfl)) ?_; (with_reducible refine (laws_eqTxnResult.calls k t260 t261 _ _ t262 t251 t252 _ _ t253 true _ ?side1 ?side2 ?side3 ?side4 A7.out).mono ?_); (case side1 => refine (Kd.R_reads' (e := 55) (base := w.heap.size) (ok := fun k_ => (True ∧ some k_ ≠ (.slice Ao19 t253.length co19 : Value).ownBlock)) (n := t262.length) (c := co26) ?_).2.2; exact (by (with_reducible repeat (first | apply Kd.R_alloc | apply Kd.R_drewN | apply Kd.R_drew)); exact (Kd.R_mono (Kd.R_far (p := ⟨zD, 2, none⟩) (Kd.R_far (p := ⟨zD, 1, none⟩) (Kd.R_far (p := ⟨zD, 0, none⟩) (Kd.R_types zL.out zB.out (by decide)) (fun _ hk => hk.2) (.bool t260)) (fun _ hk => hk.2) (.int .i64 t261)) (fun _ hk => hk.2) (.slice Ao26 t262.length co26)) (fun _ h_ => h_.1)))); (case side2 => exact (Kd.R_reads' zL.out).2.1); (case side3 => refine (Kd.R_reads' (e := 55) (base := w.heap.size) (ok := fun k_ => (True ∧ some k_ ≠ (.slice Ao26 t262.length co26 : Value).ownBlock)) (n := t253.length) (c := co19) ?_).2.2; exact (by (with_reducible repeat (first | apply Kd.R_alloc | apply Kd.R_drewN | apply Kd.R_drew)); exact (Kd.R_mono (Kd.R_far (p := ⟨zD, 2, none⟩) (Kd.R_far (p := ⟨zD, 1, none⟩) (Kd.R_far (p := ⟨zD, 0, none⟩) (Kd.R_types zH.out zB.out (by decide)) (fun _ hk => hk.2) (.bool t260)) (fun _ hk => hk.2) (.int .i64 t261)) (fun _ hk => hk.2) (.slice Ao26 t262.length co26)) (fun _ h_ => h_.1)))); (case side4 => exact (Kd.R_reads' zH.out).2.1); rintro e w28 ⟨rfl, hb⟩; refine ⟨_, rfl, ?_⟩; have n0_ := Aside0.mk (Kd.R_below (by (with_reducible repeat (first | apply Kd.R_alloc | apply Kd.R_drewN | apply Kd.R_drew)); exact (Kd.R_mono (Kd.R_far (p := ⟨zD, 2, none⟩) (Kd.R_far (p := ⟨zD, 1, none⟩) (Kd.R_far (p := ⟨zD, 0, none⟩) (Kd.R_types zG.out zB.out (by decide)) (fun _ hk => hk.2) (.bool t260)) (fun _ hk => hk.2) (.int .i64 t261)) (fun _ hk => hk.2) (.slice Ao26 t262.length co26)) (fun _ h_ => h_.1))) hb); have n1_ := Aside0.mk (Kd.R_below (by (with_reducible repeat (first | apply Kd.R_alloc | apply Kd.R_drewN | apply Kd.R_drew)); exact (Kd.R_mono (Kd.R_far (p := ⟨zD, 2, none⟩) (Kd.R_far (p := ⟨zD, 1, none⟩) (Kd.R_far (p := ⟨zD, 0, none⟩) (Kd.R_types zH.out zB.out (by decide)) (fun _ hk => hk.2) (.bool t260)) (fun _ hk => hk.2) (.int .i64 t261)) (fun _ hk => hk.2) (.slice Ao26 t262.length co26)) (fun _ h_ => h_.1))) hb); have n2_ := Aside0.mk (Kd.R_below (by (with_reducible repeat (first | apply Kd.R_alloc | apply Kd.R_drewN | apply Kd.R_drew)); exact (Kd.R_mono (Kd.R_far (p := ⟨zD, 2, none⟩) (Kd.R_far (p := ⟨zD, 1, none⟩) (Kd.R_far (p := ⟨zD, 0, none⟩) (Kd.R_types zI.out zB.out (by decide)) (fun _ hk => hk.2) (.bool t260)) (fun _ hk => hk.2) (.int .i64 t261)) (fun _ hk => hk.2) (.slice Ao26 t262.length co26)) (fun _ h_ => h_.1))) hb); have n3_ := Aside0.mk (Kd.R_below (by (with_reducible repeat (first | apply Kd.R_alloc | apply Kd.R_drewN | apply Kd.R_drew)); exact (Kd.R_mono (Kd.R_far (p := ⟨zD, 2, none⟩) (Kd.R_far (p := ⟨zD, 1, none⟩) (Kd.R_far (p := ⟨zD, 0, none⟩) (Kd.R_types zL.out zB.out (by decide)) (fun _ hk => hk.2) (.bool t260)) (fun _ hk => hk.2) (.int .i64 t261)) (fun _ hk => hk.2) (.slice Ao26 t262.length co26)) (fun _ h_ => h_.1))) hb); have n4_ := Aside0.mk (zt (g := zE) (o := .cells #[.bool t251, .int .i64 t252, .slice Ao19 t253.length co19] 27 (0, 0)) (by (with_reducible repeat (first | refine zh ?_ _ | refine zj ?_ | refine zg ?_ _)); refine zo ?_ zQ.out _; (with_reducible repeat (first | refine zh ?_ _ | refine zj ?_ | refine zg ?_ _)); refine zo ?_ zQ.out _; (with_reducible repeat (first | refine zh ?_ _ | refine zj ?_ | refine zg ?_ _)); refine zo ?_ zQ.out _; (with_reducible repeat (first | refine zh ?_ _ | refine zj ?_ | refine zg ?_ _)); exact zA.out) hb); have n5_ := Aside0.mk (zt (g := zD) (o := .cells #[.bool t260, .int .i64 t261, .slice Ao26 t262.length co26] 27 (0, 0)) (by (with_reducible repeat (first | refine zh ?_ _ | refine zj ?_ | refine zg ?_ _)); refine zq (cs := #[.bool t260, .int .i64 t261, .slice none 0 0]) ?_ 2 _ rfl; (with_reducible repeat (first | refine zh ?_ _ | refine zj ?_ | refine zg ?_ _)); refine zq (cs := #[.bool t260, .int .i64 0, .slice none 0 0]) ?_ 1 _ rfl; (with_reducible repeat (first | refine zh ?_ _ | refine zj ?_ | refine zg ?_ _)); refine zq (cs := #[.bool false, .int .i64 0, .slice none 0 0]) ?_ 0 _ rfl; (with_reducible repeat (first | refine zh ?_ _ | refine zj ?_ | refine zg ?_ _)); exact zB.out) hb); have n6_ := Aside0.mk (zm (by repeat (first | (with_reducible first | exact HB.out | apply zf | apply zc | apply ze | refine zk ?_ zK.out | refine zk ?_ zM.out) | exact HB.out)) hb); clear zG; clear zH; clear zI; clear zL; clear zA; clear zB; clear HB; have zG := n0_; have zH := n1_; have zI := n2_; have zL := n3_; have zA := n4_; have zB := n5_; have HB := n6_; clear n0_ n1_ n2_ n3_ n4_ n5_ n6_; (try clear hb); (try clear hb2); (try clear hk); (try clear hi)) | ((with_reducible refine zn (f := 7) rfl ?_); refine zz (some 26) rfl rfl Tryd.func7 (by kernel_rfl) rfl #[.slice A0 l0.length c0] rfl (by (try simp only [List.map_toArray, List.map_cons, List.map_nil]); first | done | rfl | (simp only [List.length_drop, List.length_take]; rfl)) ?_; (with_reducible refine (laws_toByteS.calls k _ _ l0 t267 _ ?side1 ?side2 A9.out).mono ?_); (case side1 => repeat (first | exact (Kd.C_below HR0.out HB.out) | (with_reducible refine Kd.C_alloc ?_ _) | (with_reducible refine Kd.C_drewN ?_ _) | (with_reducible refine Kd.C_drew ?_))); (case side2 => exact HC0.out); rintro e w29 ⟨v268, rfl, zN, hb⟩; refine ⟨_, rfl, ?_⟩; have n0_ := Aside0.mk (Kd.R_elder' (by (with_reducible repeat (first | apply Kd.R_alloc | apply Kd.R_drewN | apply Kd.R_drew)); exact zG.out) (Kd.R_base zN) hb); have n1_ := Aside0.mk (Kd.R_below (by (with_reducible repeat (first | apply Kd.R_alloc | apply Kd.R_drewN | apply Kd.R_drew)); exact zH.out) hb); have n2_ := Aside0.mk (Kd.R_elder' (by (with_reducible repeat (first | apply Kd.R_alloc | apply Kd.R_drewN | apply Kd.R_drew)); exact zI.out) (Kd.R_base zN) hb); have n3_ := Aside0.mk (Kd.R_below (by (with_reducible repeat (first | apply Kd.R_alloc | apply Kd.R_drewN | apply Kd.R_drew)); exact zL.out) hb); have n4_ := Aside0.mk (Kd.R_lower (Kd.R_new' (Kd.R_new' zN (Kd.R_lt (by (with_reducible repeat (first | apply Kd.R_alloc | apply Kd.R_drewN | apply Kd.R_drew)); exact zG.out))) (Kd.R_lt (by (with_reducible repeat (first | apply Kd.R_alloc | apply Kd.R_drewN | apply Kd.R_drew)); exact zI.out))) (zl (by repeat (first | (with_reducible first | exact HB.out | apply zf | apply zc | apply ze | refine zk ?_ zK.out | refine zk ?_ zM.out) | exact HB.out)))); have n5_ := Aside0.mk (zt (g := zE) (o := .cells #[.bool t251, .int .i64 t252, .slice Ao19 t253.length co19] 27 (0, 0)) (by (with_reducible repeat (first | refine zh ?_ _ | refine zj ?_ | refine zg ?_ _)); exact zA.out) hb); have n6_ := Aside0.mk (zt (g := zD) (o := .cells #[.bool t260, .int .i64 t261, .slice Ao26 t262.length co26] 27 (0, 0)) (by (with_reducible repeat (first | refine zh ?_ _ | refine zj ?_ | refine zg ?_ _)); exact zB.out) hb); have n7_ := Aside0.mk (zm (by repeat (first | (with_reducible first | exact HB.out | apply zf | apply zc | apply ze | refine zk ?_ zK.out | refine zk ?_ zM.out) | exact HB.out)) hb); clear zG; clear zH; clear zI; clear zL; clear zA; clear zB; clear HB; have zG := n0_; have zH := n1_; have zI := n2_; have zL := n3_; have zR := n4_; have zA := n5_; have zB := n6_; have HB := n7_; clear n0_ n1_ n2_ n3_ n4_ n5_ n6_ n7_; (try clear hb); (try clear hb2); (try clear hk); (try clear hi); (try clear zN); obtain ⟨Ao30, co30, eo30⟩ := Kd.R_slice zR.out; subst eo30) | ((with_reducible refine zn (f := 10) rfl ?_); refine zz (some 27) rfl rfl Tryd.func10 (by kernel_rfl) rfl #[.slice Ao21 t257.length co21, .slice Ao30 t267.length co30] rfl (by (try simp only [List.map_toArray, List.map_cons, List.map_nil]); first | done | rfl | (simp only [List.length_drop, List.length_take]; rfl)) ?_; (with_reducible refine (laws_eqByteS.calls k _ _ t257 _ _ t267 true _ ?side1 ?side2 ?side3 ?side4 A10.out).mono ?_); (case side1 => repeat (first | exact (Kd.R_reads' zI.out).2.2 | (with_reducible refine Kd.C_alloc ?_ _) | (with_reducible refine Kd.C_drewN ?_ _) | (with_reducible refine Kd.C_drew ?_))); (case side2 => exact (Kd.R_reads' zI.out).2.1); (case side3 => repeat (first | exact (Kd.R_reads' zR.out).2.2 | (with_reducible refine Kd.C_alloc ?_ _) | (with_reducible refine Kd.C_drewN ?_ _) | (with_reducible refine Kd.C_drew ?_))); (case side4 => exact (Kd.R_reads' zR.out).2.1); rintro e w' ⟨rfl, ⟨nd, rfl⟩⟩; refine ⟨_, rfl, ?_⟩) | ((with_reducible refine zn (f := 11) rfl ?_); refine zz (some 31) rfl rfl Tryd.func11 (by kernel_rfl) rfl #[.slice Ao21 t257.length co21, .int .i64 1] rfl (by (try simp only [List.map_toArray, List.map_cons, List.map_nil]); first | done | rfl | (simp only [List.length_drop, List.length_take]; rfl)) ?_; (with_reducible refine (laws_markByteS.calls k (fun k_ => some k_ = (.slice Ao21 t257.length co21 : Value).ownBlock) (.slice Ao21 t257.length co21) t257 1 t271 t272 w _ ?side1 ?side2 A12.out).mono ?_); (case side1 => repeat (first | (with_reducible first | exact HB.out | apply zf | apply zc | apply ze | refine zk ?_ zK.out | refine zk ?_ zM.out) | exact HB.out)); (case side2 => exact Kd.R_tight rfl zI.out); rintro e w31 ⟨rfl, hy0, hb, hkp⟩; refine ⟨_, rfl, ?_⟩; have n0_ := Aside0.mk (Kd.R_mono (ok' := fun k_ => some k_ ≠ (.slice Ao21 t257.length co21 : Value).ownBlock ∧ some k_ ≠ (.slice Ao30 t267.length co30 : Value).ownBlock) (Kd.R_keptB (zG.out) hkp (fun k_ hk_ hs_ => by first | exact (hk_.1.2) hs_ | exact hk_.1 hs_ | exact hk_.2 hs_ | exact hk_.1.1 hs_ | exact hk_.1.2 hs_ | exact hk_.2.1 hs_ | exact hk_.2.2 hs_)) (fun k_ hk_ => by first | exact ⟨hk_.1.1.2, hk_.1.2⟩ | exact hk_.1 | exact ⟨hk_.1.1, hk_.1.2⟩ | exact ⟨hk_.1.2, hk_.1.1⟩ | exact hk_.1.1 | exact hk_.1.2)); have n1_ := Aside0.mk (Kd.R_mono (ok' := fun k_ => some k_ ≠ (.slice Ao26 t262.length co26 : Value).ownBlock) (Kd.R_keptB ((Kd.R_apart' zH.out (Kd.R_typed zI.out) (by decide))) hkp (fun k_ hk_ hs_ => by first | exact (hk_.2) hs_ | exact hk_.1 hs_ | exact hk_.2 hs_ | exact hk_.1.1 hs_ | exact hk_.1.2 hs_ | exact hk_.2.1 hs_ | exact hk_.2.2 hs_)) (fun k_ hk_ => by first | exact hk_.1.1.2 | exact hk_.1 | exact ⟨hk_.1.1, hk_.1.2⟩ | exact ⟨hk_.1.2, hk_.1.1⟩ | exact hk_.1.1 | exact hk_.1.2)); have n2_ := Aside0.mk (blk_kept (by (with_reducible repeat (first | refine zh ?_ _ | refine zj ?_ | refine zg ?_ _)); exact zA.out) hkp (fun hs_ => (fun e_ => (Kd.R_ne zI.out zA.out (by decide)) e_) hs_)); have n3_ := Aside0.mk (Kd.R_reok rfl hy0 (fun k_ e_ => zI.out.1 k_ e_)); have n4_ := Aside0.mk (Kd.R_mono (ok' := fun k_ => some k_ ≠ (.slice Ao19 t253.length co19 : Value).ownBlock) (Kd.R_keptB ((Kd.R_apart' zL.out (Kd.R_typed zI.out) (by decide))) hkp (fun k_ hk_ hs_ => by first | exact (hk_.2) hs_ | exact hk_.1 hs_ | exact hk_.2 hs_ | exact hk_.1.1 hs_ | exact hk_.1.2 hs_ | exact hk_.2.1 hs_ | exact hk_.2.2 hs_)) (fun k_ hk_ => by first | exact hk_.1.1.2 | exact hk_.1 | exact ⟨hk_.1.1, hk_.1.2⟩ | exact ⟨hk_.1.2, hk_.1.1⟩ | exact hk_.1.1 | exact hk_.1.2)); have n5_ := Aside0.mk (blk_kept (by (with_reducible repeat (first | refine zh ?_ _ | refine zj ?_ | refine zg ?_ _)); exact zB.out) hkp (fun hs_ => (fun e_ => (Kd.R_ne zI.out zB.out (by decide)) e_) hs_)); have n6_ := Aside0.mk (Kd.R_mono (ok' := fun k_ => some k_ ≠ (.slice Ao15 t248.length co15 : Value).ownBlock ∧ some k_ ≠ (.slice Ao21 t257.length co21 : Value).ownBlock) (Kd.R_keptB (zR.out) hkp (fun k_ hk_ hs_ => by first | exact (hk_.2) hs_ | exact hk_.1 hs_ | exact hk_.2 hs_ | exact hk_.1.1 hs_ | exact hk_.1.2 hs_ | exact hk_.2.1 hs_ | exact hk_.2.2 hs_)) (fun k_ hk_ => by first | exact ⟨hk_.1.1.2, hk_.1.2⟩ | exact hk_.1 | exact ⟨hk_.1.1, hk_.1.2⟩ | exact ⟨hk_.1.2, hk_.1.1⟩ | exact hk_.1.1 | exact hk_.1.2)); have n7_ := Aside0.mk (hb); clear zG; clear zH; clear zA; clear zI; clear zL; clear zB; clear zR; clear HB; have zG := n0_; have zH := n1_; have zA := n2_; have zI := n3_; have zL := n4_; have zB := n5_; have zR := n6_; have HB := n7_; clear n0_ n1_ n2_ n3_ n4_ n5_ n6_ n7_; (try clear hb); (try clear hkp); (try clear hy0)))
    (try simp only [Act.put, List.setIfInBounds_toArray, List.set_cons_zero, List.set_cons_succ])
    go_cut [39] (fun v39 wc => ∃ (kq : Nat) (x39_12 : Bool), v39 = .bool x39_12 ∧ Aside0 (laws_FnExactDecodeTxn.j0 kq l0 x39_12 t251 t252 t253 t260 t261 t262 = some r) ∧ Aside0 (kq ≤ k) ∧ Aside0 (Kd.R k55 55 wc w.heap.size (fun k_ => some k_ ≠ ((.slice Ao26 t262.length co26) : Value).ownBlock) (.slice Ao19 t253.length co19) t253) ∧ Aside0 (Kd.R k55 55 wc w.heap.size (fun k_ => some k_ ≠ ((.slice Ao19 t253.length co19) : Value).ownBlock) (.slice Ao26 t262.length co26) t262) ∧ Aside0 (wc.heap[zE]? = some (.cells #[.bool t251, .int .i64 t252, (.slice Ao19 t253.length co19)] 27 (0, 0))) ∧ Aside0 (wc.heap[zD]? = some (.cells #[.bool t260, .int .i64 t261, (.slice Ao26 t262.length co26)] 27 (0, 0))) ∧ Aside0 (Below w.heap.size w wc))
    case first =>
     have H := HC13.out
     clear HC13
     by_cases c32 : t271 < 0
     ·rw [if_pos c32] at H
      have c32b0 : decide (t271 < 0) = true := decide_eq_true c32
      clear c32
      (first | rw [c32b0] | (simp only [zp, zr]; rw [c32b0]) | skip)
      have H' := Aside0.mk H
      clear H
      go_wp2
      go_meet
      case rel => exact ⟨_, (true), (by first | rfl | (simp; done) | (simp [*]; done)), H', ⟨by first | omega | exact Nat.le_refl _⟩, ⟨by (with_reducible repeat (first | apply Kd.R_alloc | apply Kd.R_drewN | apply Kd.R_drew)); exact zH.out⟩, ⟨by (with_reducible repeat (first | apply Kd.R_alloc | apply Kd.R_drewN | apply Kd.R_drew)); exact zL.out⟩, ⟨by (with_reducible repeat (first | refine zh ?_ _ | refine zj ?_ | refine zg ?_ _)); exact zA.out⟩, ⟨by (with_reducible repeat (first | refine zh ?_ _ | refine zj ?_ | refine zg ?_ _)); exact zB.out⟩, ⟨by repeat (first | (with_reducible first | exact HB.out | apply zf | apply zc | apply ze | refine zk ?_ zK.out | refine zk ?_ zM.out) | exact HB.out)⟩⟩
     ·rw [if_neg c32] at H
      have c32b0 : decide (t271 < 0) = false := decide_eq_false c32
      clear c32
      (first | rw [c32b0] | (simp only [zp, zr]; rw [c32b0]) | skip)
      replace H := Option.bind_eq_some_iff.mp H
      obtain ⟨t273, A330, H⟩ := H
      replace H : (laws_FnExactDecodeTxn.j0 k l0 (!t273) t251 t252 t253 t260 t261 t262) = some r := H
      have A33 := Aside0.mk A330
      clear A330
      have H' := Aside0.mk H
      clear H
      have zdc := zV.out
      have zec := zQ.out
      have zrb : w31.cell? ⟨zD, 0, none⟩ = some (.bool t260) := (zi zB.out 0).trans rfl
      have zsb : w31.cell? ⟨zD, 1, none⟩ = some (.int .i64 t261) := (zi zB.out 1).trans rfl
      have ztb : w31.cell? ⟨zD, 2, none⟩ = some (.slice Ao26 t262.length co26) := (zi zB.out 2).trans rfl
      have zub := zd zB.out 0
      have zvb := zd zB.out 1
      have zwb := zd zB.out 2
      have zxb : w31.cell? ⟨zE, 0, none⟩ = some (.bool t251) := (zi zA.out 0).trans rfl
      have zyb : w31.cell? ⟨zE, 1, none⟩ = some (.int .i64 t252) := (zi zA.out 1).trans rfl
      have zzb : w31.cell? ⟨zE, 2, none⟩ = some (.slice Ao19 t253.length co19) := (zi zA.out 2).trans rfl
      have zAb := zd zA.out 0
      have zBb := zd zA.out 1
      have zCb := zd zA.out 2
      go_wp2_with (first | (go_at_call 9; (with_reducible refine (laws_eqTxnResult.calls k t260 t261 _ _ t262 t251 t252 _ _ t253 t273 _ ?side1 ?side2 ?side3 ?side4 A33.out).mono ?_); (case side1 => repeat (first | exact (Kd.R_reads' zL.out).2.2 | (with_reducible refine Kd.C_alloc ?_ _) | (with_reducible refine Kd.C_drewN ?_ _) | (with_reducible refine Kd.C_drew ?_))); (case side2 => exact (Kd.R_reads' zL.out).2.1); (case side3 => repeat (first | exact (Kd.R_reads' zH.out).2.2 | (with_reducible refine Kd.C_alloc ?_ _) | (with_reducible refine Kd.C_drewN ?_ _) | (with_reducible refine Kd.C_drew ?_))); (case side4 => exact (Kd.R_reads' zH.out).2.1); rintro e w37 ⟨rfl, hb⟩; have n0_ := Aside0.mk (Kd.R_below (by (with_reducible repeat (first | apply Kd.R_alloc | apply Kd.R_drewN | apply Kd.R_drew)); exact zG.out) hb); have n1_ := Aside0.mk (Kd.R_below (by (with_reducible repeat (first | apply Kd.R_alloc | apply Kd.R_drewN | apply Kd.R_drew)); exact zH.out) hb); have n2_ := Aside0.mk (Kd.R_below (by (with_reducible repeat (first | apply Kd.R_alloc | apply Kd.R_drewN | apply Kd.R_drew)); exact zI.out) hb); have n3_ := Aside0.mk (Kd.R_below (by (with_reducible repeat (first | apply Kd.R_alloc | apply Kd.R_drewN | apply Kd.R_drew)); exact zL.out) hb); have n4_ := Aside0.mk (Kd.R_below (by (with_reducible repeat (first | apply Kd.R_alloc | apply Kd.R_drewN | apply Kd.R_drew)); exact zR.out) hb); have n5_ := Aside0.mk (zt (g := zE) (o := .cells #[.bool t251, .int .i64 t252, .slice Ao19 t253.length co19] 27 (0, 0)) (by (with_reducible repeat (first | refine zh ?_ _ | refine zj ?_ | refine zg ?_ _)); exact zA.out) hb); have n6_ := Aside0.mk (zt (g := zD) (o := .cells #[.bool t260, .int .i64 t261, .slice Ao26 t262.length co26] 27 (0, 0)) (by (with_reducible repeat (first | refine zh ?_ _ | refine zj ?_ | refine zg ?_ _)); exact zB.out) hb); have n7_ := Aside0.mk (zm (by repeat (first | (with_reducible first | exact HB.out | apply zf | apply zc | apply ze | refine zk ?_ zK.out | refine zk ?_ zM.out) | exact HB.out)) hb); clear zG; clear zH; clear zI; clear zL; clear zR; clear zA; clear zB; clear HB; have zG := n0_; have zH := n1_; have zI := n2_; have zL := n3_; have zR := n4_; have zA := n5_; have zB := n6_; have HB := n7_; clear n0_ n1_ n2_ n3_ n4_ n5_ n6_ n7_; (try clear hb); (try clear hb2); (try clear hk); (try clear hi)))
      go_meet
      case rel => exact ⟨_, (!t273), (by first | rfl | (simp; done) | (simp [*]; done)), H', ⟨by first | omega | exact Nat.le_refl _⟩, ⟨by (with_reducible repeat (first | apply Kd.R_alloc | apply Kd.R_drewN | apply Kd.R_drew)); exact zH.out⟩, ⟨by (with_reducible repeat (first | apply Kd.R_alloc | apply Kd.R_drewN | apply Kd.R_drew)); exact zL.out⟩, ⟨by (with_reducible repeat (first | refine zh ?_ _ | refine zj ?_ | refine zg ?_ _)); exact zA.out⟩, ⟨by (with_reducible repeat (first | refine zh ?_ _ | refine zj ?_ | refine zg ?_ _)); exact zB.out⟩, ⟨by repeat (first | (with_reducible first | exact HB.out | apply zf | apply zc | apply ze | refine zk ?_ zK.out | refine zk ?_ zM.out) | exact HB.out)⟩⟩
    case rest =>
     clear HC13
     try clear c1
     try clear c2
     try clear c2b0
     try clear c2b1
     try clear p2
     try clear c3
     try clear c6
     try clear c7
     try clear c8
     try clear c9
     try clear c10
     try clear c11
     try clear c24
     try clear c32
     try clear c32b0
     try clear c34
     try clear zZ
     try clear zab
     try clear zbb
     try clear zfb
     try clear zgb
     try clear zhb
     try clear zlb
     try clear zmb
     try clear znb
     try clear zrb
     try clear zsb
     try clear ztb
     try clear zxb
     try clear zyb
     try clear zzb
     try clear zcb
     try clear zdb
     try clear zeb
     try clear zib
     try clear zjb
     try clear zkb
     try clear zob
     try clear zpb
     try clear zqb
     try clear zub
     try clear zvb
     try clear zwb
     try clear zAb
     try clear zBb
     try clear zCb
     obtain ⟨kq, x39_12, rfl, HA, HJ12, zF, zC, zA, zB, HB⟩ := hcut
     cases kq with
     | zero => exact absurd HA.out (by simp [laws_FnExactDecodeTxn.j0])
     | succ kj12 =>
      have H := HA.out
      clear HA
      simp only [laws_FnExactDecodeTxn.j0] at H
      by_cases c38 : x39_12 = true
      ·subst c38
       have H1 : none = some r := by rw [if_pos rfl] at H; exact H
       clear H
       have H := H1
       clear H1
       exact absurd H (by simp)
      ·replace c38 := Bool.eq_false_iff.mpr c38
       subst c38
       have H1 : ((laws_markTxnResult.f kj12 t260 t261 t262 1).bind fun bt274 => ((laws_heldTxnResult.f kj12 t260 t261 bt274.2 1).bind fun t276 => (if t276 < 0 then none else (if t276 = bt274.1 then ((laws_toByteS.f kj12 l0).bind fun t277 => ((impl_DecodeTxn.f kj12 t277).bind fun bt280 => ((laws_eqTxnResult.f kj12 bt280.1 bt280.2.1 bt280.2.2 t251 t252 t253).bind fun t286 => (if t286 = true then (some true) else none)))) else none)))) = some r := by rw [if_neg (show ¬ (false = true) by decide)] at H; exact H
       clear H
       have H := H1
       clear H1
       replace H := Option.bind_eq_some_iff.mp H
       obtain ⟨⟨t274, t275⟩, A390, H⟩ := H
       replace H : ((laws_heldTxnResult.f kj12 t260 t261 t275 1).bind fun t276 => (if t276 < 0 then none else (if t276 = t274 then ((laws_toByteS.f kj12 l0).bind fun t277 => ((impl_DecodeTxn.f kj12 t277).bind fun bt280 => ((laws_eqTxnResult.f kj12 bt280.1 bt280.2.1 bt280.2.2 t251 t252 t253).bind fun t286 => (if t286 = true then (some true) else none)))) else none))) = some r := H
       have A39 := Aside0.mk A390
       clear A390
       replace H := Option.bind_eq_some_iff.mp H
       obtain ⟨t276, A400, H⟩ := H
       replace H : (if t276 < 0 then none else (if t276 = t274 then ((laws_toByteS.f kj12 l0).bind fun t277 => ((impl_DecodeTxn.f kj12 t277).bind fun bt280 => ((laws_eqTxnResult.f kj12 bt280.1 bt280.2.1 bt280.2.2 t251 t252 t253).bind fun t286 => (if t286 = true then (some true) else none)))) else none)) = some r := H
       have A40 := Aside0.mk A400
       clear A400
       by_cases c41 : t276 < 0
       ·rw [if_pos c41] at H
        have c41b0 : decide (t276 < 0) = true := decide_eq_true c41
        clear c41
        exact absurd H (by simp)
       ·rw [if_neg c41] at H
        have c41b0 : decide (t276 < 0) = false := decide_eq_false c41
        clear c41
        by_cases c47 : t276 = t274
        ·rw [if_pos c47] at H
         have c47b0 : (t276 == t274) = true := beq_iff_eq.mpr c47
         have c47b1 : (t276 != t274) = false := bne_eq_false_iff_eq.mpr c47
         clear c47
         replace H := Option.bind_eq_some_iff.mp H
         obtain ⟨t277, A480, H⟩ := H
         replace H : ((impl_DecodeTxn.f kj12 t277).bind fun bt280 => ((laws_eqTxnResult.f kj12 bt280.1 bt280.2.1 bt280.2.2 t251 t252 t253).bind fun t286 => (if t286 = true then (some true) else none))) = some r := H
         have A48 := Aside0.mk A480
         clear A480
         replace H := Option.bind_eq_some_iff.mp H
         obtain ⟨⟨t280, t281, t282⟩, A490, H⟩ := H
         replace H : ((laws_eqTxnResult.f kj12 t280 t281 t282 t251 t252 t253).bind fun t286 => (if t286 = true then (some true) else none)) = some r := H
         have A49 := Aside0.mk A490
         clear A490
         replace H := Option.bind_eq_some_iff.mp H
         obtain ⟨t286, A500, H⟩ := H
         replace H : (if t286 = true then (some true) else none) = some r := H
         have A50 := Aside0.mk A500
         clear A500
         by_cases c51 : t286 = true
         ·subst c51
          have H1 : (some true) = some r := by rw [if_pos rfl] at H; exact H
          clear H
          have H := H1
          clear H1
          obtain rfl := Option.some.inj H
          have zfc := zV.out
          have zgc := zQ.out
          have zDb : wc.cell? ⟨zD, 0, none⟩ = some (.bool t260) := (zi zB.out 0).trans rfl
          have zEb : wc.cell? ⟨zD, 1, none⟩ = some (.int .i64 t261) := (zi zB.out 1).trans rfl
          have zFb : wc.cell? ⟨zD, 2, none⟩ = some (.slice Ao26 t262.length co26) := (zi zB.out 2).trans rfl
          have zGb := zd zB.out 0
          have zHb := zd zB.out 1
          have zIb := zd zB.out 2
          go_wp2_with (first | ((with_reducible refine zn (f := 12) rfl ?_); refine zz (some 42) rfl rfl Tryd.func12 (by kernel_rfl) rfl #[.agg #[.bool t260, .int .i64 t261, .slice Ao26 t262.length co26], .int .i64 1] rfl (by (try simp only [List.map_toArray, List.map_cons, List.map_nil]); first | done | rfl | (simp only [List.length_drop, List.length_take]; rfl)) ?_; (with_reducible refine (laws_markTxnResult.calls kj12 t260 t261 (fun k_ => some k_ = (.slice Ao26 t262.length co26 : Value).ownBlock) (.slice Ao26 t262.length co26) t262 1 t274 t275 w _ ?side1 ?side2 A39.out).mono ?_); (case side1 => repeat (first | (with_reducible first | exact HB.out | apply zf | apply zc | apply ze | refine zk ?_ zK.out | refine zk ?_ zM.out) | exact HB.out)); (case side2 => exact Kd.R_tight rfl zC.out); rintro e w54 ⟨rfl, hy0, hb, hkp⟩; refine ⟨_, rfl, ?_⟩; have n0_ := Aside0.mk (Kd.R_mono (ok' := fun k_ => some k_ ≠ (.slice Ao26 t262.length co26 : Value).ownBlock) (Kd.R_keptB (zF.out) hkp (fun k_ hk_ hs_ => by first | exact (hk_) hs_ | exact hk_.1 hs_ | exact hk_.2 hs_ | exact hk_.1.1 hs_ | exact hk_.1.2 hs_ | exact hk_.2.1 hs_ | exact hk_.2.2 hs_)) (fun k_ hk_ => by first | exact hk_.1 | exact hk_.1 | exact ⟨hk_.1.1, hk_.1.2⟩ | exact ⟨hk_.1.2, hk_.1.1⟩ | exact hk_.1.1 | exact hk_.1.2)); have n1_ := Aside0.mk (Kd.R_reok rfl hy0 (fun k_ e_ => zC.out.1 k_ e_)); have n2_ := Aside0.mk (blk_kept (by (with_reducible repeat (first | refine zh ?_ _ | refine zj ?_ | refine zg ?_ _)); exact zA.out) hkp (fun hs_ => (fun e_ => (Kd.R_ne zC.out zA.out (by decide)) e_) hs_)); have n3_ := Aside0.mk (blk_kept (by (with_reducible repeat (first | refine zh ?_ _ | refine zj ?_ | refine zg ?_ _)); exact zB.out) hkp (fun hs_ => (fun e_ => (Kd.R_ne zC.out zB.out (by decide)) e_) hs_)); have n4_ := Aside0.mk (hb); clear zF; clear zC; clear zA; clear zB; clear HB; have zF := n0_; have zC := n1_; have zA := n2_; have zB := n3_; have HB := n4_; clear n0_ n1_ n2_ n3_ n4_; (try clear hb); (try clear hkp); (try clear hy0); have zJb : w54.cell? ⟨zD, 0, none⟩ = some (.bool t260) := (zi zB.out 0).trans rfl; have zKb : w54.cell? ⟨zD, 1, none⟩ = some (.int .i64 t261) := (zi zB.out 1).trans rfl; have zLb : w54.cell? ⟨zD, 2, none⟩ = some (.slice Ao26 t262.length co26) := (zi zB.out 2).trans rfl; have zMb := zd zB.out 0; have zNb := zd zB.out 1; have zOb := zd zB.out 2) | ((with_reducible refine zn (f := 13) rfl ?_); refine zz (some 45) rfl rfl Tryd.func13 (by kernel_rfl) rfl #[.agg #[.bool t260, .int .i64 t261, .slice Ao26 t275.length co26], .int .i64 1] rfl (by (try simp only [List.map_toArray, List.map_cons, List.map_nil]); first | done | (rw [show t275.length = t262.length from (Kd.R_reads' zC.out).1.symm] <;> rfl) | rfl | (simp only [List.length_drop, List.length_take]; rfl)) ?_; (with_reducible refine (laws_heldTxnResult.calls kj12 t260 t261 _ _ t275 1 t276 _ ?side1 ?side2 A40.out).mono ?_); (case side1 => repeat (first | exact (Kd.R_reads' zC.out).2.2 | (with_reducible refine Kd.C_alloc ?_ _) | (with_reducible refine Kd.C_drewN ?_ _) | (with_reducible refine Kd.C_drew ?_))); (case side2 => rw [show t275.length = t262.length from (Kd.R_reads' zC.out).1.symm]; exact (Kd.R_reads' zC.out).2.1); rintro e w56 ⟨rfl, hb⟩; refine ⟨_, rfl, ?_⟩; have n0_ := Aside0.mk (Kd.R_below (by (with_reducible repeat (first | apply Kd.R_alloc | apply Kd.R_drewN | apply Kd.R_drew)); exact zF.out) hb); have n1_ := Aside0.mk (Kd.R_below (by (with_reducible repeat (first | apply Kd.R_alloc | apply Kd.R_drewN | apply Kd.R_drew)); exact zC.out) hb); have n2_ := Aside0.mk (zt (g := zE) (o := .cells #[.bool t251, .int .i64 t252, .slice Ao19 t253.length co19] 27 (0, 0)) (by (with_reducible repeat (first | refine zh ?_ _ | refine zj ?_ | refine zg ?_ _)); exact zA.out) hb); have n3_ := Aside0.mk (zt (g := zD) (o := .cells #[.bool t260, .int .i64 t261, .slice Ao26 t262.length co26] 27 (0, 0)) (by (with_reducible repeat (first | refine zh ?_ _ | refine zj ?_ | refine zg ?_ _)); exact zB.out) hb); have n4_ := Aside0.mk (zm (by repeat (first | (with_reducible first | exact HB.out | apply zf | apply zc | apply ze | refine zk ?_ zK.out | refine zk ?_ zM.out) | exact HB.out)) hb); clear zF; clear zC; clear zA; clear zB; clear HB; have zF := n0_; have zC := n1_; have zA := n2_; have zB := n3_; have HB := n4_; clear n0_ n1_ n2_ n3_ n4_; (try clear hb); (try clear hb2); (try clear hk); (try clear hi)) | ((with_reducible refine zn (f := 7) rfl ?_); refine zz (some 52) rfl rfl Tryd.func7 (by kernel_rfl) rfl #[.slice A0 l0.length c0] rfl (by (try simp only [List.map_toArray, List.map_cons, List.map_nil]); first | done | rfl | (simp only [List.length_drop, List.length_take]; rfl)) ?_; (with_reducible refine (laws_toByteS.calls kj12 _ _ l0 t277 _ ?side1 ?side2 A48.out).mono ?_); (case side1 => repeat (first | exact (Kd.C_below HR0.out HB.out) | (with_reducible refine Kd.C_alloc ?_ _) | (with_reducible refine Kd.C_drewN ?_ _) | (with_reducible refine Kd.C_drew ?_))); (case side2 => exact HC0.out); rintro e w57 ⟨v278, rfl, zN, hb⟩; refine ⟨_, rfl, ?_⟩; have n0_ := Aside0.mk (Kd.R_below (by (with_reducible repeat (first | apply Kd.R_alloc | apply Kd.R_drewN | apply Kd.R_drew)); exact zF.out) hb); have n1_ := Aside0.mk (Kd.R_below (by (with_reducible repeat (first | apply Kd.R_alloc | apply Kd.R_drewN | apply Kd.R_drew)); exact zC.out) hb); have n2_ := Aside0.mk (Kd.R_lower zN (zl (by repeat (first | (with_reducible first | exact HB.out | apply zf | apply zc | apply ze | refine zk ?_ zK.out | refine zk ?_ zM.out) | exact HB.out)))); have n3_ := Aside0.mk (zt (g := zE) (o := .cells #[.bool t251, .int .i64 t252, .slice Ao19 t253.length co19] 27 (0, 0)) (by (with_reducible repeat (first | refine zh ?_ _ | refine zj ?_ | refine zg ?_ _)); exact zA.out) hb); have n4_ := Aside0.mk (zt (g := zD) (o := .cells #[.bool t260, .int .i64 t261, .slice Ao26 t262.length co26] 27 (0, 0)) (by (with_reducible repeat (first | refine zh ?_ _ | refine zj ?_ | refine zg ?_ _)); exact zB.out) hb); have n5_ := Aside0.mk (zm (by repeat (first | (with_reducible first | exact HB.out | apply zf | apply zc | apply ze | refine zk ?_ zK.out | refine zk ?_ zM.out) | exact HB.out)) hb); clear zF; clear zC; clear zA; clear zB; clear HB; have zF := n0_; have zC := n1_; have zP := n2_; have zA := n3_; have zB := n4_; have HB := n5_; clear n0_ n1_ n2_ n3_ n4_ n5_; (try clear hb); (try clear hb2); (try clear hk); (try clear hi); (try clear zN); obtain ⟨Ao58, co58, eo58⟩ := Kd.R_slice zP.out; subst eo58) | ((with_reducible refine zn (f := 8) rfl ?_); refine zz (some 53) rfl rfl Tryd.func8 (by kernel_rfl) rfl #[.slice Ao58 t277.length co58] rfl (by (try simp only [List.map_toArray, List.map_cons, List.map_nil]); first | done | rfl | (simp only [List.length_drop, List.length_take]; rfl)) ?_; (with_reducible refine (impl_DecodeTxn.calls kj12 _ _ t277 t280 t281 t282 _ ?side1 ?side2 A49.out ?globMAX_).mono ?_); (case globMAX_ => exact Go.Proofs.YtejecjjimggjeaaDoorH.GFMAX.below HGMAX_.out (by repeat (first | (with_reducible first | exact HB.out | exact Below.refl _ _ | apply zf | apply zc | apply ze | refine zk ?_ (Aside0.out (by assumption))) | exact HB.out))); (case side1 => repeat (first | exact (Kd.R_reads' zP.out).2.2 | (with_reducible refine Kd.C_alloc ?_ _) | (with_reducible refine Kd.C_drewN ?_ _) | (with_reducible refine Kd.C_drew ?_))); (case side2 => exact (Kd.R_reads' zP.out).2.1); rintro e w59 ⟨v283, rfl, zN, hb⟩; refine ⟨_, rfl, ?_⟩; have n0_ := Aside0.mk (Kd.R_elder' (by (with_reducible repeat (first | apply Kd.R_alloc | apply Kd.R_drewN | apply Kd.R_drew)); exact zF.out) (Kd.R_base zN) hb); have n1_ := Aside0.mk (Kd.R_elder' (by (with_reducible repeat (first | apply Kd.R_alloc | apply Kd.R_drewN | apply Kd.R_drew)); exact zC.out) (Kd.R_base zN) hb); have n2_ := Aside0.mk (Kd.R_below (by (with_reducible repeat (first | apply Kd.R_alloc | apply Kd.R_drewN | apply Kd.R_drew)); exact zP.out) hb); have n3_ := Aside0.mk (Kd.R_lower (Kd.R_new' (Kd.R_new' zN (Kd.R_lt (by (with_reducible repeat (first | apply Kd.R_alloc | apply Kd.R_drewN | apply Kd.R_drew)); exact zF.out))) (Kd.R_lt (by (with_reducible repeat (first | apply Kd.R_alloc | apply Kd.R_drewN | apply Kd.R_drew)); exact zC.out))) (zl (by repeat (first | (with_reducible first | exact HB.out | apply zf | apply zc | apply ze | refine zk ?_ zK.out | refine zk ?_ zM.out) | exact HB.out)))); have n4_ := Aside0.mk (zt (g := zE) (o := .cells #[.bool t251, .int .i64 t252, .slice Ao19 t253.length co19] 27 (0, 0)) (by (with_reducible repeat (first | refine zh ?_ _ | refine zj ?_ | refine zg ?_ _)); exact zA.out) hb); have n5_ := Aside0.mk (zt (g := zD) (o := .cells #[.bool t260, .int .i64 t261, .slice Ao26 t262.length co26] 27 (0, 0)) (by (with_reducible repeat (first | refine zh ?_ _ | refine zj ?_ | refine zg ?_ _)); exact zB.out) hb); have n6_ := Aside0.mk (zm (by repeat (first | (with_reducible first | exact HB.out | apply zf | apply zc | apply ze | refine zk ?_ zK.out | refine zk ?_ zM.out) | exact HB.out)) hb); clear zF; clear zC; clear zP; clear zA; clear zB; clear HB; have zF := n0_; have zC := n1_; have zP := n2_; have zS := n3_; have zA := n4_; have zB := n5_; have HB := n6_; clear n0_ n1_ n2_ n3_ n4_ n5_ n6_; (try clear hb); (try clear hb2); (try clear hk); (try clear hi); (try clear zN)) | ((with_reducible refine zw (N := 9) rfl ?_); refine zx ?hg (N := 9) ?hd (cs := #[.bool false, .int .i64 0, .slice none 0 0]) (t := 27) ?hr ?_; (case hd => rfl); (case hg => rfl); (case hr => first | (go_simp; done) | (go_simp; rfl)); intro zJ hg w60 hbox hb; have n0_ := Aside0.mk (Kd.R_below (by (with_reducible repeat (first | apply Kd.R_alloc | apply Kd.R_drewN | apply Kd.R_drew)); exact zF.out) hb); have n1_ := Aside0.mk (Kd.R_below (by (with_reducible repeat (first | apply Kd.R_alloc | apply Kd.R_drewN | apply Kd.R_drew)); exact zC.out) hb); have n2_ := Aside0.mk (Kd.R_below (by (with_reducible repeat (first | apply Kd.R_alloc | apply Kd.R_drewN | apply Kd.R_drew)); exact zP.out) hb); have n3_ := Aside0.mk (Kd.R_below (by (with_reducible repeat (first | apply Kd.R_alloc | apply Kd.R_drewN | apply Kd.R_drew)); exact zS.out) hb); have n4_ := Aside0.mk (zt (g := zE) (o := .cells #[.bool t251, .int .i64 t252, .slice Ao19 t253.length co19] 27 (0, 0)) (by (with_reducible repeat (first | refine zh ?_ _ | refine zj ?_ | refine zg ?_ _)); exact zA.out) hb); have n5_ := Aside0.mk (zt (g := zD) (o := .cells #[.bool t260, .int .i64 t261, .slice Ao26 t262.length co26] 27 (0, 0)) (by (with_reducible repeat (first | refine zh ?_ _ | refine zj ?_ | refine zg ?_ _)); exact zB.out) hb); have n6_ := Aside0.mk (zm (by repeat (first | (with_reducible first | exact HB.out | apply zf | apply zc | apply ze | refine zk ?_ zK.out | refine zk ?_ zM.out) | exact HB.out)) hb); have n7_ := Aside0.mk (hbox); have n8_ := Aside0.mk ((by rw [hg]; exact (zl (by repeat (first | (with_reducible first | exact HB.out | apply zf | apply zc | apply ze | refine zk ?_ zK.out | refine zk ?_ zM.out) | exact HB.out))) : w.heap.size ≤ zJ)); have n9_ := Aside0.mk ((by rw [hg]; exact (zl (by repeat (first | (with_reducible first | exact HB.out | apply zf | apply zc | apply ze | refine zk ?_ zK.out | refine zk ?_ zM.out) | exact HB.out))) : w.heap.size ≤ zJ)); have n10_ := Aside0.mk ((by rw [hg]; exact Nat.ne_of_lt (zy (g := zE) (o := .cells #[.bool t251, .int .i64 t252, .slice Ao19 t253.length co19] 27 (0, 0)) (by (with_reducible repeat (first | refine zh ?_ _ | refine zj ?_ | refine zg ?_ _)); exact zA.out)) : zE ≠ zJ)); have n11_ := Aside0.mk ((by rw [hg]; exact Nat.ne_of_gt (zy (g := zE) (o := .cells #[.bool t251, .int .i64 t252, .slice Ao19 t253.length co19] 27 (0, 0)) (by (with_reducible repeat (first | refine zh ?_ _ | refine zj ?_ | refine zg ?_ _)); exact zA.out)) : zJ ≠ zE)); have n12_ := Aside0.mk ((by rw [hg]; exact Nat.ne_of_lt (zy (g := zD) (o := .cells #[.bool t260, .int .i64 t261, .slice Ao26 t262.length co26] 27 (0, 0)) (by (with_reducible repeat (first | refine zh ?_ _ | refine zj ?_ | refine zg ?_ _)); exact zB.out)) : zD ≠ zJ)); have n13_ := Aside0.mk ((by rw [hg]; exact Nat.ne_of_gt (zy (g := zD) (o := .cells #[.bool t260, .int .i64 t261, .slice Ao26 t262.length co26] 27 (0, 0)) (by (with_reducible repeat (first | refine zh ?_ _ | refine zj ?_ | refine zg ?_ _)); exact zB.out)) : zJ ≠ zD)); clear zF; clear zC; clear zP; clear zS; clear zA; clear zB; clear HB; have zF := n0_; have zC := n1_; have zP := n2_; have zS := n3_; have zA := n4_; have zB := n5_; have HB := n6_; have zO := n7_; have GW285 := n8_; have zY := n9_; have zT := n10_; have zW := n11_; have zU := n12_; have zX := n13_; clear n0_ n1_ n2_ n3_ n4_ n5_ n6_ n7_ n8_ n9_ n10_ n11_ n12_ n13_; clear hb hbox hg; have zhc := zW.out; have zic := zT.out; have zjc := zX.out; have zkc := zU.out; have zPb : w60.cell? ⟨zJ, 0, none⟩ = some (.bool false) := (zi zO.out 0).trans rfl; have zQb : w60.cell? ⟨zJ, 1, none⟩ = some (.int .i64 0) := (zi zO.out 1).trans rfl; have zRb : w60.cell? ⟨zJ, 2, none⟩ = some (.slice none 0 0) := (zi zO.out 2).trans rfl; have zSb := zd zO.out 0; have zTb := zd zO.out 1; have zUb := zd zO.out 2; obtain ⟨Ao64, co64, eo64⟩ := Kd.R_slice zS.out; subst eo64; have zVb : w60.cell? ⟨zE, 0, none⟩ = some (.bool t251) := (zi zA.out 0).trans rfl; have zWb : w60.cell? ⟨zE, 1, none⟩ = some (.int .i64 t252) := (zi zA.out 1).trans rfl; have zXb : w60.cell? ⟨zE, 2, none⟩ = some (.slice Ao19 t253.length co19) := (zi zA.out 2).trans rfl; have zYb := zd zA.out 0; have zZb := zd zA.out 1; have zac := zd zA.out 2) | ((with_reducible refine zn (f := 9) rfl ?_); refine zz (some 56) rfl rfl Tryd.func9 (by kernel_rfl) rfl #[.agg #[.bool t280, .int .i64 t281, .slice Ao64 t282.length co64], .agg #[.bool t251, .int .i64 t252, .slice Ao19 t253.length co19]] rfl (by (try simp only [List.map_toArray, List.map_cons, List.map_nil]); first | done | rfl | (simp only [List.length_drop, List.length_take]; rfl)) ?_; (with_reducible refine (laws_eqTxnResult.calls kj12 t280 t281 _ _ t282 t251 t252 _ _ t253 true _ ?side1 ?side2 ?side3 ?side4 A50.out).mono ?_); (case side1 => refine (Kd.R_reads' (e := 55) (base := w.heap.size) (ok := fun k_ => ((True ∧ some k_ ≠ (.slice Ao19 t253.length co19 : Value).ownBlock) ∧ some k_ ≠ (.slice Ao26 t262.length co26 : Value).ownBlock)) (n := t282.length) (c := co64) ?_).2.2; exact (by (with_reducible repeat (first | apply Kd.R_alloc | apply Kd.R_drewN | apply Kd.R_drew)); exact (Kd.R_mono (Kd.R_far (p := ⟨zJ, 2, none⟩) (Kd.R_far (p := ⟨zJ, 1, none⟩) (Kd.R_far (p := ⟨zJ, 0, none⟩) (Kd.R_types zS.out zO.out (by decide)) (fun _ hk => hk.2) (.bool t280)) (fun _ hk => hk.2) (.int .i64 t281)) (fun _ hk => hk.2) (.slice Ao64 t282.length co64)) (fun _ h_ => h_.1)))); (case side2 => exact (Kd.R_reads' zS.out).2.1); (case side3 => refine (Kd.R_reads' (e := 55) (base := w.heap.size) (ok := fun k_ => (some k_ ≠ (.slice Ao26 t262.length co26 : Value).ownBlock ∧ some k_ ≠ (.slice Ao64 t282.length co64 : Value).ownBlock)) (n := t253.length) (c := co19) ?_).2.2; exact (by (with_reducible repeat (first | apply Kd.R_alloc | apply Kd.R_drewN | apply Kd.R_drew)); exact (Kd.R_mono (Kd.R_far (p := ⟨zJ, 2, none⟩) (Kd.R_far (p := ⟨zJ, 1, none⟩) (Kd.R_far (p := ⟨zJ, 0, none⟩) (Kd.R_types zF.out zO.out (by decide)) (fun _ hk => hk.2) (.bool t280)) (fun _ hk => hk.2) (.int .i64 t281)) (fun _ hk => hk.2) (.slice Ao64 t282.length co64)) (fun _ h_ => h_.1)))); (case side4 => exact (Kd.R_reads' zF.out).2.1); rintro e w66 ⟨rfl, hb⟩; refine ⟨_, rfl, ?_⟩; have n0_ := Aside0.mk (Kd.R_below (by (with_reducible repeat (first | apply Kd.R_alloc | apply Kd.R_drewN | apply Kd.R_drew)); exact (Kd.R_mono (Kd.R_far (p := ⟨zJ, 2, none⟩) (Kd.R_far (p := ⟨zJ, 1, none⟩) (Kd.R_far (p := ⟨zJ, 0, none⟩) (Kd.R_types zF.out zO.out (by decide)) (fun _ hk => hk.2) (.bool t280)) (fun _ hk => hk.2) (.int .i64 t281)) (fun _ hk => hk.2) (.slice Ao64 t282.length co64)) (fun _ h_ => h_.1))) hb); have n1_ := Aside0.mk (Kd.R_below (by (with_reducible repeat (first | apply Kd.R_alloc | apply Kd.R_drewN | apply Kd.R_drew)); exact (Kd.R_mono (Kd.R_far (p := ⟨zJ, 2, none⟩) (Kd.R_far (p := ⟨zJ, 1, none⟩) (Kd.R_far (p := ⟨zJ, 0, none⟩) (Kd.R_types zC.out zO.out (by decide)) (fun _ hk => hk.2) (.bool t280)) (fun _ hk => hk.2) (.int .i64 t281)) (fun _ hk => hk.2) (.slice Ao64 t282.length co64)) (fun _ h_ => h_.1))) hb); have n2_ := Aside0.mk (Kd.R_below (by (with_reducible repeat (first | apply Kd.R_alloc | apply Kd.R_drewN | apply Kd.R_drew)); exact (Kd.R_mono (Kd.R_far (p := ⟨zJ, 2, none⟩) (Kd.R_far (p := ⟨zJ, 1, none⟩) (Kd.R_far (p := ⟨zJ, 0, none⟩) (Kd.R_types zP.out zO.out (by decide)) (fun _ hk => hk.2) (.bool t280)) (fun _ hk => hk.2) (.int .i64 t281)) (fun _ hk => hk.2) (.slice Ao64 t282.length co64)) (fun _ h_ => h_.1))) hb); have n3_ := Aside0.mk (Kd.R_below (by (with_reducible repeat (first | apply Kd.R_alloc | apply Kd.R_drewN | apply Kd.R_drew)); exact (Kd.R_mono (Kd.R_far (p := ⟨zJ, 2, none⟩) (Kd.R_far (p := ⟨zJ, 1, none⟩) (Kd.R_far (p := ⟨zJ, 0, none⟩) (Kd.R_types zS.out zO.out (by decide)) (fun _ hk => hk.2) (.bool t280)) (fun _ hk => hk.2) (.int .i64 t281)) (fun _ hk => hk.2) (.slice Ao64 t282.length co64)) (fun _ h_ => h_.1))) hb); have n4_ := Aside0.mk (zt (g := zE) (o := .cells #[.bool t251, .int .i64 t252, .slice Ao19 t253.length co19] 27 (0, 0)) (by (with_reducible repeat (first | refine zh ?_ _ | refine zj ?_ | refine zg ?_ _)); refine zo ?_ zT.out _; (with_reducible repeat (first | refine zh ?_ _ | refine zj ?_ | refine zg ?_ _)); refine zo ?_ zT.out _; (with_reducible repeat (first | refine zh ?_ _ | refine zj ?_ | refine zg ?_ _)); refine zo ?_ zT.out _; (with_reducible repeat (first | refine zh ?_ _ | refine zj ?_ | refine zg ?_ _)); exact zA.out) hb); have n5_ := Aside0.mk (zt (g := zD) (o := .cells #[.bool t260, .int .i64 t261, .slice Ao26 t262.length co26] 27 (0, 0)) (by (with_reducible repeat (first | refine zh ?_ _ | refine zj ?_ | refine zg ?_ _)); refine zo ?_ zU.out _; (with_reducible repeat (first | refine zh ?_ _ | refine zj ?_ | refine zg ?_ _)); refine zo ?_ zU.out _; (with_reducible repeat (first | refine zh ?_ _ | refine zj ?_ | refine zg ?_ _)); refine zo ?_ zU.out _; (with_reducible repeat (first | refine zh ?_ _ | refine zj ?_ | refine zg ?_ _)); exact zB.out) hb); have n6_ := Aside0.mk (zt (g := zJ) (o := .cells #[.bool t280, .int .i64 t281, .slice Ao64 t282.length co64] 27 (0, 0)) (by (with_reducible repeat (first | refine zh ?_ _ | refine zj ?_ | refine zg ?_ _)); refine zq (cs := #[.bool t280, .int .i64 t281, .slice none 0 0]) ?_ 2 _ rfl; (with_reducible repeat (first | refine zh ?_ _ | refine zj ?_ | refine zg ?_ _)); refine zq (cs := #[.bool t280, .int .i64 0, .slice none 0 0]) ?_ 1 _ rfl; (with_reducible repeat (first | refine zh ?_ _ | refine zj ?_ | refine zg ?_ _)); refine zq (cs := #[.bool false, .int .i64 0, .slice none 0 0]) ?_ 0 _ rfl; (with_reducible repeat (first | refine zh ?_ _ | refine zj ?_ | refine zg ?_ _)); exact zO.out) hb); have n7_ := Aside0.mk (zm (by repeat (first | (with_reducible first | exact HB.out | apply zf | apply zc | apply ze | refine zk ?_ zK.out | refine zk ?_ zM.out | refine zk ?_ zY.out) | exact HB.out)) hb); clear zF; clear zC; clear zP; clear zS; clear zA; clear zB; clear zO; clear HB; have zF := n0_; have zC := n1_; have zP := n2_; have zS := n3_; have zA := n4_; have zB := n5_; have zO := n6_; have HB := n7_; clear n0_ n1_ n2_ n3_ n4_ n5_ n6_ n7_; (try clear hb); (try clear hb2); (try clear hk); (try clear hi)))
          go_ret
          exact ⟨by first | rfl | (simp [errW_none, errW_some] <;> rfl) | (simp [*, errW_none, errW_some] <;> rfl), by repeat (first | (with_reducible first | exact HB.out | apply zf | apply zc | apply ze | refine zk ?_ zK.out | refine zk ?_ zM.out | refine zk ?_ zY.out) | exact HB.out)⟩
         ·replace c51 := Bool.eq_false_iff.mpr c51
          subst c51
          have H1 : none = some r := by rw [if_neg (show ¬ (false = true) by decide)] at H; exact H
          clear H
          have H := H1
          clear H1
          exact absurd H (by simp)
        ·rw [if_neg c47] at H
         have c47b0 : (t276 == t274) = false := beq_eq_false_iff_ne.mpr c47
         have c47b1 : (t276 != t274) = true := bne_iff_ne.mpr c47
         exact absurd H (by simp)
   ·replace c11 := Bool.eq_false_iff.mpr c11
    subst c11
    have H1 : none = some r := by rw [if_neg (show ¬ (false = true) by decide)] at H; exact H
    clear H
    have H := H1
    clear H1
    exact absurd H (by simp)
  ·replace c8 := Bool.eq_false_iff.mpr c8
   subst c8
   have H1 : none = some r := by rw [if_neg (show ¬ (false = true) by decide)] at H; exact H
   clear H
   have H := H1
   clear H1
   exact absurd H (by simp)
/-- THE ONE PURE STATEMENT of laws_FnExactDecodeTxn. -/
def laws_FnExactDecodeTxn.Pure : Prop := ∀ (l0 : List Int), (l0.length ≤ maxLen ∧ ∀ z0_ ∈ l0, (Lit.int .u8 z0_).wf = true) → ∃ k, laws_FnExactDecodeTxn.f k l0 = some true

end Go.Proofs.YtejecjjimggjeaaDoor.GFnExactDecodeTxn
