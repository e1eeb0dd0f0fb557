/- Written by give.py, a program of this session, that runs the kit's print and lays contracts proved by hand beside it. -/
import Derived.Test.YtejecjjimggjeaaDoorGFnExactDecodeTxnx0
namespace Go.Proofs.YtejecjjimggjeaaDoor.GFnExactDecodeTxn
open Go.RowKit Go.Proofs.YtejecjjimggjeaaDoorW.PrintWords Go.Proofs.YtejecjjimggjeaaDoorW.PrintLast Go.Proofs.YtejecjjimggjeaaDoorW.PrintMore
attribute [local go_sem] max2_int min2_int max_two min_two max_three min_three max_four min_four
attribute [local go_sem high] Go.Proofs.YtejecjjimggjeaaDoorH.str_leq Go.Proofs.YtejecjjimggjeaaDoorH.str_geq Go.Proofs.YtejecjjimggjeaaDoorH.str_gtr   -- for this text's walks alone
set_option linter.unusedVariables false
set_option linter.unusedSimpArgs false

def laws_eqNode.f (a0_0 : ByteArray) (a0_1 : ByteArray) (a0_2 : Int) (a0_3 : Int) (a0_4 : Int) (a0_5 : Int) (a0_6 : Int) (a1_0 : ByteArray) (a1_1 : ByteArray) (a1_2 : Int) (a1_3 : Int) (a1_4 : Int) (a1_5 : Int) (a1_6 : Int) : Option (Bool) := if a0_0.toList = a1_0.toList then (if a0_1.toList = a1_1.toList then (if a0_2 = a1_2 then (if a0_3 = a1_3 then (if a0_4 = a1_4 then (if a0_5 = a1_5 then (if a0_6 = a1_6 then (some true) else (some false)) else (some false)) else (some false)) else (some false)) else (some false)) else (some false)) else (some false)
set_option maxHeartbeats 8000000 in
set_option maxRecDepth 100000 in
theorem laws_eqNode.calls (a0_0 : ByteArray) (a0_1 : ByteArray) (a0_2 : Int) (a0_3 : Int) (a0_4 : Int) (a0_5 : Int) (a0_6 : Int) (a1_0 : ByteArray) (a1_1 : ByteArray) (a1_2 : Int) (a1_3 : Int) (a1_4 : Int) (a1_5 : Int) (a1_6 : Int) (r : Bool) (w : World) (h : laws_eqNode.f a0_0 a0_1 a0_2 a0_3 a0_4 a0_5 a0_6 a1_0 a1_1 a1_2 a1_3 a1_4 a1_5 a1_6 = some r) :
  Calls Tryd.prog 74 #[.agg #[.string a0_0, .string a0_1, .int .i64 a0_2, .int .i64 a0_3, .int .i64 a0_4, .int .i64 a0_5, .int .i64 a0_6], .agg #[.string a1_0, .string a1_1, .int .i64 a1_2, .int .i64 a1_3, .int .i64 a1_4, .int .i64 a1_5, .int .i64 a1_6]] w fun e w' => e = .returned (.bool r) ∧ Below w.heap.size w w' := by
 have hu53 := Tryd.underlying53
 have HB := Aside0.mk (Below.refl w.heap.size w)
 have H : (if a0_0.toList = a1_0.toList then (if a0_1.toList = a1_1.toList then (if a0_2 = a1_2 then (if a0_3 = a1_3 then (if a0_4 = a1_4 then (if a0_5 = a1_5 then (if a0_6 = a1_6 then (some true) else (some false)) else (some false)) else (some false)) else (some false)) else (some false)) else (some false)) else (some false)) = some r := h
 clear h
 by_cases c3 : a0_0.toList = a1_0.toList
 ·rw [if_pos c3] at H
  have c3b0 : (a0_0.toList == a1_0.toList) = true := beq_iff_eq.mpr c3
  have c3b1 : (a0_0.toList != a1_0.toList) = false := bne_eq_false_iff_eq.mpr c3
  clear c3
  by_cases c4 : a0_1.toList = a1_1.toList
  ·rw [if_pos c4] at H
   have c4b0 : (a0_1.toList == a1_1.toList) = true := beq_iff_eq.mpr c4
   have c4b1 : (a0_1.toList != a1_1.toList) = false := bne_eq_false_iff_eq.mpr c4
   clear c4
   by_cases c5 : a0_2 = a1_2
   ·rw [if_pos c5] at H
    have c5b0 : (a0_2 == a1_2) = true := beq_iff_eq.mpr c5
    have c5b1 : (a0_2 != a1_2) = false := bne_eq_false_iff_eq.mpr c5
    clear c5
    by_cases c6 : a0_3 = a1_3
    ·rw [if_pos c6] at H
     have c6b0 : (a0_3 == a1_3) = true := beq_iff_eq.mpr c6
     have c6b1 : (a0_3 != a1_3) = false := bne_eq_false_iff_eq.mpr c6
     clear c6
     by_cases c7 : a0_4 = a1_4
     ·rw [if_pos c7] at H
      have c7b0 : (a0_4 == a1_4) = true := beq_iff_eq.mpr c7
      have c7b1 : (a0_4 != a1_4) = false := bne_eq_false_iff_eq.mpr c7
      clear c7
      by_cases c8 : a0_5 = a1_5
      ·rw [if_pos c8] at H
       have c8b0 : (a0_5 == a1_5) = true := beq_iff_eq.mpr c8
       have c8b1 : (a0_5 != a1_5) = false := bne_eq_false_iff_eq.mpr c8
       clear c8
       by_cases c9 : a0_6 = a1_6
       ·rw [if_pos c9] at H
        have c9b0 : (a0_6 == a1_6) = true := beq_iff_eq.mpr c9
        have c9b1 : (a0_6 != a1_6) = false := bne_eq_false_iff_eq.mpr c9
        clear c9
        obtain rfl := Option.some.inj H
        go_enter Tryd.func74, Tryd.ntmps74
        go_wp2_with (first | ((with_reducible refine zw (N := 2) rfl ?_); refine zx ?hg (N := 2) ?hd (cs := #[.string a0_0, .string a0_1, .int .i64 a0_2, .int .i64 a0_3, .int .i64 a0_4, .int .i64 a0_5, .int .i64 a0_6]) (t := 53) ?hr ?_; (case hd => rfl); (case hg => rfl); (case hr => first | (go_simp; done) | (go_simp; rfl)); intro zB hg w10 hbox hb; have n0_ := Aside0.mk (zm (by repeat (first | (with_reducible first | exact HB.out | apply zf | apply zc | apply ze) | exact HB.out)) hb); have n1_ := Aside0.mk (hbox); have n2_ := Aside0.mk ((by rw [hg]; exact (zl (by repeat (first | (with_reducible first | exact HB.out | apply zf | apply zc | apply ze) | exact HB.out))) : w.heap.size ≤ zB)); have n3_ := Aside0.mk ((by rw [hg]; exact (zl (by repeat (first | (with_reducible first | exact HB.out | apply zf | apply zc | apply ze) | exact HB.out))) : w.heap.size ≤ zB)); clear HB; have HB := n0_; have zA := n1_; have GW198 := n2_; have zE := n3_; clear n0_ n1_ n2_ n3_; clear hb hbox hg) | ((with_reducible refine zw (N := 3) rfl ?_); refine zx ?hg (N := 3) ?hd (cs := #[.string a1_0, .string a1_1, .int .i64 a1_2, .int .i64 a1_3, .int .i64 a1_4, .int .i64 a1_5, .int .i64 a1_6]) (t := 53) ?hr ?_; (case hd => rfl); (case hg => rfl); (case hr => first | (go_simp; done) | (go_simp; rfl)); intro zD hg w11 hbox hb; have n0_ := Aside0.mk (zt (g := zB) (o := .cells #[.string a0_0, .string a0_1, .int .i64 a0_2, .int .i64 a0_3, .int .i64 a0_4, .int .i64 a0_5, .int .i64 a0_6] 53 (0, 0)) (by (with_reducible repeat (first | refine zh ?_ _ | refine zj ?_ | refine zg ?_ _)); exact zA.out) hb); have n1_ := Aside0.mk (zm (by repeat (first | (with_reducible first | exact HB.out | apply zf | apply zc | apply ze | refine zk ?_ zE.out) | exact HB.out)) hb); have n2_ := Aside0.mk (hbox); have n3_ := Aside0.mk ((by rw [hg]; exact (zl (by repeat (first | (with_reducible first | exact HB.out | apply zf | apply zc | apply ze | refine zk ?_ zE.out) | exact HB.out))) : w.heap.size ≤ zD)); have n4_ := Aside0.mk ((by rw [hg]; exact (zl (by repeat (first | (with_reducible first | exact HB.out | apply zf | apply zc | apply ze | refine zk ?_ zE.out) | exact HB.out))) : w.heap.size ≤ zD)); have n5_ := Aside0.mk ((by rw [hg]; exact Nat.ne_of_lt (zy (g := zB) (o := .cells #[.string a0_0, .string a0_1, .int .i64 a0_2, .int .i64 a0_3, .int .i64 a0_4, .int .i64 a0_5, .int .i64 a0_6] 53 (0, 0)) (by (with_reducible repeat (first | refine zh ?_ _ | refine zj ?_ | refine zg ?_ _)); exact zA.out)) : zB ≠ zD)); have n6_ := Aside0.mk ((by rw [hg]; exact Nat.ne_of_gt (zy (g := zB) (o := .cells #[.string a0_0, .string a0_1, .int .i64 a0_2, .int .i64 a0_3, .int .i64 a0_4, .int .i64 a0_5, .int .i64 a0_6] 53 (0, 0)) (by (with_reducible repeat (first | refine zh ?_ _ | refine zj ?_ | refine zg ?_ _)); exact zA.out)) : zD ≠ zB)); clear zA; clear HB; have zA := n0_; have HB := n1_; have zC := n2_; have GW199 := n3_; have zH := n4_; have zF := n5_; have zG := n6_; clear n0_ n1_ n2_ n3_ n4_ n5_ n6_; clear hb hbox hg; have zYe := zF.out; have zZe := zG.out; have zI : w11.cell? ⟨zB, 0, none⟩ = some (.string a0_0) := (zi zA.out 0).trans rfl; have zJ : w11.cell? ⟨zB, 1, none⟩ = some (.string a0_1) := (zi zA.out 1).trans rfl; have zK : w11.cell? ⟨zB, 2, none⟩ = some (.int .i64 a0_2) := (zi zA.out 2).trans rfl; have zL : w11.cell? ⟨zB, 3, none⟩ = some (.int .i64 a0_3) := (zi zA.out 3).trans rfl; have zM : w11.cell? ⟨zB, 4, none⟩ = some (.int .i64 a0_4) := (zi zA.out 4).trans rfl; have zN : w11.cell? ⟨zB, 5, none⟩ = some (.int .i64 a0_5) := (zi zA.out 5).trans rfl; have zO : w11.cell? ⟨zB, 6, none⟩ = some (.int .i64 a0_6) := (zi zA.out 6).trans rfl; have zP := zd zA.out 0; have zQ := zd zA.out 1; have zR := zd zA.out 2; have zS := zd zA.out 3; have zT := zd zA.out 4; have zU := zd zA.out 5; have zV := zd zA.out 6; have zW : w11.cell? ⟨zD, 0, none⟩ = some (.string a1_0) := (zi zC.out 0).trans rfl; have zX : w11.cell? ⟨zD, 1, none⟩ = some (.string a1_1) := (zi zC.out 1).trans rfl; have zY : w11.cell? ⟨zD, 2, none⟩ = some (.int .i64 a1_2) := (zi zC.out 2).trans rfl; have zZ : w11.cell? ⟨zD, 3, none⟩ = some (.int .i64 a1_3) := (zi zC.out 3).trans rfl; have zab : w11.cell? ⟨zD, 4, none⟩ = some (.int .i64 a1_4) := (zi zC.out 4).trans rfl; have zbb : w11.cell? ⟨zD, 5, none⟩ = some (.int .i64 a1_5) := (zi zC.out 5).trans rfl; have zcb : w11.cell? ⟨zD, 6, none⟩ = some (.int .i64 a1_6) := (zi zC.out 6).trans rfl; have zdb := zd zC.out 0; have zeb := zd zC.out 1; have zfb := zd zC.out 2; have zgb := zd zC.out 3; have zhb := zd zC.out 4; have zib := zd zC.out 5; have zjb := zd zC.out 6))
        go_ret
        exact ⟨by first | rfl | (simp [errW_none, errW_some] <;> rfl) | (simp [*, errW_none, errW_some] <;> rfl), by repeat (first | (with_reducible first | exact HB.out | apply zf | apply zc | apply ze | refine zk ?_ zE.out | refine zk ?_ zH.out) | exact HB.out)⟩
       ·rw [if_neg c9] at H
        have c9b0 : (a0_6 == a1_6) = false := beq_eq_false_iff_ne.mpr c9
        have c9b1 : (a0_6 != a1_6) = true := bne_iff_ne.mpr c9
        obtain rfl := Option.some.inj H
        go_enter Tryd.func74, Tryd.ntmps74
        go_wp2_with (first | ((with_reducible refine zw (N := 2) rfl ?_); refine zx ?hg (N := 2) ?hd (cs := #[.string a0_0, .string a0_1, .int .i64 a0_2, .int .i64 a0_3, .int .i64 a0_4, .int .i64 a0_5, .int .i64 a0_6]) (t := 53) ?hr ?_; (case hd => rfl); (case hg => rfl); (case hr => first | (go_simp; done) | (go_simp; rfl)); intro zB hg w15 hbox hb; have n0_ := Aside0.mk (zm (by repeat (first | (with_reducible first | exact HB.out | apply zf | apply zc | apply ze) | exact HB.out)) hb); have n1_ := Aside0.mk (hbox); have n2_ := Aside0.mk ((by rw [hg]; exact (zl (by repeat (first | (with_reducible first | exact HB.out | apply zf | apply zc | apply ze) | exact HB.out))) : w.heap.size ≤ zB)); have n3_ := Aside0.mk ((by rw [hg]; exact (zl (by repeat (first | (with_reducible first | exact HB.out | apply zf | apply zc | apply ze) | exact HB.out))) : w.heap.size ≤ zB)); clear HB; have HB := n0_; have zA := n1_; have GW198 := n2_; have zE := n3_; clear n0_ n1_ n2_ n3_; clear hb hbox hg) | ((with_reducible refine zw (N := 3) rfl ?_); refine zx ?hg (N := 3) ?hd (cs := #[.string a1_0, .string a1_1, .int .i64 a1_2, .int .i64 a1_3, .int .i64 a1_4, .int .i64 a1_5, .int .i64 a1_6]) (t := 53) ?hr ?_; (case hd => rfl); (case hg => rfl); (case hr => first | (go_simp; done) | (go_simp; rfl)); intro zD hg w16 hbox hb; have n0_ := Aside0.mk (zt (g := zB) (o := .cells #[.string a0_0, .string a0_1, .int .i64 a0_2, .int .i64 a0_3, .int .i64 a0_4, .int .i64 a0_5, .int .i64 a0_6] 53 (0, 0)) (by (with_reducible repeat (first | refine zh ?_ _ | refine zj ?_ | refine zg ?_ _)); exact zA.out) hb); have n1_ := Aside0.mk (zm (by repeat (first | (with_reducible first | exact HB.out | apply zf | apply zc | apply ze | refine zk ?_ zE.out) | exact HB.out)) hb); have n2_ := Aside0.mk (hbox); have n3_ := Aside0.mk ((by rw [hg]; exact (zl (by repeat (first | (with_reducible first | exact HB.out | apply zf | apply zc | apply ze | refine zk ?_ zE.out) | exact HB.out))) : w.heap.size ≤ zD)); have n4_ := Aside0.mk ((by rw [hg]; exact (zl (by repeat (first | (with_reducible first | exact HB.out | apply zf | apply zc | apply ze | refine zk ?_ zE.out) | exact HB.out))) : w.heap.size ≤ zD)); have n5_ := Aside0.mk ((by rw [hg]; exact Nat.ne_of_lt (zy (g := zB) (o := .cells #[.string a0_0, .string a0_1, .int .i64 a0_2, .int .i64 a0_3, .int .i64 a0_4, .int .i64 a0_5, .int .i64 a0_6] 53 (0, 0)) (by (with_reducible repeat (first | refine zh ?_ _ | refine zj ?_ | refine zg ?_ _)); exact zA.out)) : zB ≠ zD)); have n6_ := Aside0.mk ((by rw [hg]; exact Nat.ne_of_gt (zy (g := zB) (o := .cells #[.string a0_0, .string a0_1, .int .i64 a0_2, .int .i64 a0_3, .int .i64 a0_4, .int .i64 a0_5, .int .i64 a0_6] 53 (0, 0)) (by (with_reducible repeat (first | refine zh ?_ _ | refine zj ?_ | refine zg ?_ _)); exact zA.out)) : zD ≠ zB)); clear zA; clear HB; have zA := n0_; have HB := n1_; have zC := n2_; have GW199 := n3_; have zH := n4_; have zF := n5_; have zG := n6_; clear n0_ n1_ n2_ n3_ n4_ n5_ n6_; clear hb hbox hg; have zaf := zF.out; have zbf := zG.out; have zkb : w16.cell? ⟨zB, 0, none⟩ = some (.string a0_0) := (zi zA.out 0).trans rfl; have zlb : w16.cell? ⟨zB, 1, none⟩ = some (.string a0_1) := (zi zA.out 1).trans rfl; have zmb : w16.cell? ⟨zB, 2, none⟩ = some (.int .i64 a0_2) := (zi zA.out 2).trans rfl; have znb : w16.cell? ⟨zB, 3, none⟩ = some (.int .i64 a0_3) := (zi zA.out 3).trans rfl; have zob : w16.cell? ⟨zB, 4, none⟩ = some (.int .i64 a0_4) := (zi zA.out 4).trans rfl; have zpb : w16.cell? ⟨zB, 5, none⟩ = some (.int .i64 a0_5) := (zi zA.out 5).trans rfl; have zqb : w16.cell? ⟨zB, 6, none⟩ = some (.int .i64 a0_6) := (zi zA.out 6).trans rfl; have zrb := zd zA.out 0; have zsb := zd zA.out 1; have ztb := zd zA.out 2; have zub := zd zA.out 3; have zvb := zd zA.out 4; have zwb := zd zA.out 5; have zxb := zd zA.out 6; have zyb : w16.cell? ⟨zD, 0, none⟩ = some (.string a1_0) := (zi zC.out 0).trans rfl; have zzb : w16.cell? ⟨zD, 1, none⟩ = some (.string a1_1) := (zi zC.out 1).trans rfl; have zAb : w16.cell? ⟨zD, 2, none⟩ = some (.int .i64 a1_2) := (zi zC.out 2).trans rfl; have zBb : w16.cell? ⟨zD, 3, none⟩ = some (.int .i64 a1_3) := (zi zC.out 3).trans rfl; have zCb : w16.cell? ⟨zD, 4, none⟩ = some (.int .i64 a1_4) := (zi zC.out 4).trans rfl; have zDb : w16.cell? ⟨zD, 5, none⟩ = some (.int .i64 a1_5) := (zi zC.out 5).trans rfl; have zEb : w16.cell? ⟨zD, 6, none⟩ = some (.int .i64 a1_6) := (zi zC.out 6).trans rfl; have zFb := zd zC.out 0; have zGb := zd zC.out 1; have zHb := zd zC.out 2; have zIb := zd zC.out 3; have zJb := zd zC.out 4; have zKb := zd zC.out 5; have zLb := zd zC.out 6))
        go_ret
        exact ⟨by first | rfl | (simp [errW_none, errW_some] <;> rfl) | (simp [*, errW_none, errW_some] <;> rfl), by repeat (first | (with_reducible first | exact HB.out | apply zf | apply zc | apply ze | refine zk ?_ zE.out | refine zk ?_ zH.out) | exact HB.out)⟩
      ·rw [if_neg c8] at H
       have c8b0 : (a0_5 == a1_5) = false := beq_eq_false_iff_ne.mpr c8
       have c8b1 : (a0_5 != a1_5) = true := bne_iff_ne.mpr c8
       obtain rfl := Option.some.inj H
       go_enter Tryd.func74, Tryd.ntmps74
       go_wp2_with (first | ((with_reducible refine zw (N := 2) rfl ?_); refine zx ?hg (N := 2) ?hd (cs := #[.string a0_0, .string a0_1, .int .i64 a0_2, .int .i64 a0_3, .int .i64 a0_4, .int .i64 a0_5, .int .i64 a0_6]) (t := 53) ?hr ?_; (case hd => rfl); (case hg => rfl); (case hr => first | (go_simp; done) | (go_simp; rfl)); intro zB hg w20 hbox hb; have n0_ := Aside0.mk (zm (by repeat (first | (with_reducible first | exact HB.out | apply zf | apply zc | apply ze) | exact HB.out)) hb); have n1_ := Aside0.mk (hbox); have n2_ := Aside0.mk ((by rw [hg]; exact (zl (by repeat (first | (with_reducible first | exact HB.out | apply zf | apply zc | apply ze) | exact HB.out))) : w.heap.size ≤ zB)); have n3_ := Aside0.mk ((by rw [hg]; exact (zl (by repeat (first | (with_reducible first | exact HB.out | apply zf | apply zc | apply ze) | exact HB.out))) : w.heap.size ≤ zB)); clear HB; have HB := n0_; have zA := n1_; have GW198 := n2_; have zE := n3_; clear n0_ n1_ n2_ n3_; clear hb hbox hg) | ((with_reducible refine zw (N := 3) rfl ?_); refine zx ?hg (N := 3) ?hd (cs := #[.string a1_0, .string a1_1, .int .i64 a1_2, .int .i64 a1_3, .int .i64 a1_4, .int .i64 a1_5, .int .i64 a1_6]) (t := 53) ?hr ?_; (case hd => rfl); (case hg => rfl); (case hr => first | (go_simp; done) | (go_simp; rfl)); intro zD hg w21 hbox hb; have n0_ := Aside0.mk (zt (g := zB) (o := .cells #[.string a0_0, .string a0_1, .int .i64 a0_2, .int .i64 a0_3, .int .i64 a0_4, .int .i64 a0_5, .int .i64 a0_6] 53 (0, 0)) (by (with_reducible repeat (first | refine zh ?_ _ | refine zj ?_ | refine zg ?_ _)); exact zA.out) hb); have n1_ := Aside0.mk (zm (by repeat (first | (with_reducible first | exact HB.out | apply zf | apply zc | apply ze | refine zk ?_ zE.out) | exact HB.out)) hb); have n2_ := Aside0.mk (hbox); have n3_ := Aside0.mk ((by rw [hg]; exact (zl (by repeat (first | (with_reducible first | exact HB.out | apply zf | apply zc | apply ze | refine zk ?_ zE.out) | exact HB.out))) : w.heap.size ≤ zD)); have n4_ := Aside0.mk ((by rw [hg]; exact (zl (by repeat (first | (with_reducible first | exact HB.out | apply zf | apply zc | apply ze | refine zk ?_ zE.out) | exact HB.out))) : w.heap.size ≤ zD)); have n5_ := Aside0.mk ((by rw [hg]; exact Nat.ne_of_lt (zy (g := zB) (o := .cells #[.string a0_0, .string a0_1, .int .i64 a0_2, .int .i64 a0_3, .int .i64 a0_4, .int .i64 a0_5, .int .i64 a0_6] 53 (0, 0)) (by (with_reducible repeat (first | refine zh ?_ _ | refine zj ?_ | refine zg ?_ _)); exact zA.out)) : zB ≠ zD)); have n6_ := Aside0.mk ((by rw [hg]; exact Nat.ne_of_gt (zy (g := zB) (o := .cells #[.string a0_0, .string a0_1, .int .i64 a0_2, .int .i64 a0_3, .int .i64 a0_4, .int .i64 a0_5, .int .i64 a0_6] 53 (0, 0)) (by (with_reducible repeat (first | refine zh ?_ _ | refine zj ?_ | refine zg ?_ _)); exact zA.out)) : zD ≠ zB)); clear zA; clear HB; have zA := n0_; have HB := n1_; have zC := n2_; have GW199 := n3_; have zH := n4_; have zF := n5_; have zG := n6_; clear n0_ n1_ n2_ n3_ n4_ n5_ n6_; clear hb hbox hg; have zcf := zF.out; have zdf := zG.out; have zMb : w21.cell? ⟨zB, 0, none⟩ = some (.string a0_0) := (zi zA.out 0).trans rfl; have zNb : w21.cell? ⟨zB, 1, none⟩ = some (.string a0_1) := (zi zA.out 1).trans rfl; have zOb : w21.cell? ⟨zB, 2, none⟩ = some (.int .i64 a0_2) := (zi zA.out 2).trans rfl; have zPb : w21.cell? ⟨zB, 3, none⟩ = some (.int .i64 a0_3) := (zi zA.out 3).trans rfl; have zQb : w21.cell? ⟨zB, 4, none⟩ = some (.int .i64 a0_4) := (zi zA.out 4).trans rfl; have zRb : w21.cell? ⟨zB, 5, none⟩ = some (.int .i64 a0_5) := (zi zA.out 5).trans rfl; have zSb : w21.cell? ⟨zB, 6, none⟩ = some (.int .i64 a0_6) := (zi zA.out 6).trans rfl; have zTb := zd zA.out 0; have zUb := zd zA.out 1; have zVb := zd zA.out 2; have zWb := zd zA.out 3; have zXb := zd zA.out 4; have zYb := zd zA.out 5; have zZb := zd zA.out 6; have zac : w21.cell? ⟨zD, 0, none⟩ = some (.string a1_0) := (zi zC.out 0).trans rfl; have zbc : w21.cell? ⟨zD, 1, none⟩ = some (.string a1_1) := (zi zC.out 1).trans rfl; have zcc : w21.cell? ⟨zD, 2, none⟩ = some (.int .i64 a1_2) := (zi zC.out 2).trans rfl; have zdc : w21.cell? ⟨zD, 3, none⟩ = some (.int .i64 a1_3) := (zi zC.out 3).trans rfl; have zec : w21.cell? ⟨zD, 4, none⟩ = some (.int .i64 a1_4) := (zi zC.out 4).trans rfl; have zfc : w21.cell? ⟨zD, 5, none⟩ = some (.int .i64 a1_5) := (zi zC.out 5).trans rfl; have zgc : w21.cell? ⟨zD, 6, none⟩ = some (.int .i64 a1_6) := (zi zC.out 6).trans rfl; have zhc := zd zC.out 0; have zic := zd zC.out 1; have zjc := zd zC.out 2; have zkc := zd zC.out 3; have zlc := zd zC.out 4; have zmc := zd zC.out 5; have znc := zd zC.out 6))
       go_ret
       exact ⟨by first | rfl | (simp [errW_none, errW_some] <;> rfl) | (simp [*, errW_none, errW_some] <;> rfl), by repeat (first | (with_reducible first | exact HB.out | apply zf | apply zc | apply ze | refine zk ?_ zE.out | refine zk ?_ zH.out) | exact HB.out)⟩
     ·rw [if_neg c7] at H
      have c7b0 : (a0_4 == a1_4) = false := beq_eq_false_iff_ne.mpr c7
      have c7b1 : (a0_4 != a1_4) = true := bne_iff_ne.mpr c7
      obtain rfl := Option.some.inj H
      go_enter Tryd.func74, Tryd.ntmps74
      go_wp2_with (first | ((with_reducible refine zw (N := 2) rfl ?_); refine zx ?hg (N := 2) ?hd (cs := #[.string a0_0, .string a0_1, .int .i64 a0_2, .int .i64 a0_3, .int .i64 a0_4, .int .i64 a0_5, .int .i64 a0_6]) (t := 53) ?hr ?_; (case hd => rfl); (case hg => rfl); (case hr => first | (go_simp; done) | (go_simp; rfl)); intro zB hg w25 hbox hb; have n0_ := Aside0.mk (zm (by repeat (first | (with_reducible first | exact HB.out | apply zf | apply zc | apply ze) | exact HB.out)) hb); have n1_ := Aside0.mk (hbox); have n2_ := Aside0.mk ((by rw [hg]; exact (zl (by repeat (first | (with_reducible first | exact HB.out | apply zf | apply zc | apply ze) | exact HB.out))) : w.heap.size ≤ zB)); have n3_ := Aside0.mk ((by rw [hg]; exact (zl (by repeat (first | (with_reducible first | exact HB.out | apply zf | apply zc | apply ze) | exact HB.out))) : w.heap.size ≤ zB)); clear HB; have HB := n0_; have zA := n1_; have GW198 := n2_; have zE := n3_; clear n0_ n1_ n2_ n3_; clear hb hbox hg) | ((with_reducible refine zw (N := 3) rfl ?_); refine zx ?hg (N := 3) ?hd (cs := #[.string a1_0, .string a1_1, .int .i64 a1_2, .int .i64 a1_3, .int .i64 a1_4, .int .i64 a1_5, .int .i64 a1_6]) (t := 53) ?hr ?_; (case hd => rfl); (case hg => rfl); (case hr => first | (go_simp; done) | (go_simp; rfl)); intro zD hg w26 hbox hb; have n0_ := Aside0.mk (zt (g := zB) (o := .cells #[.string a0_0, .string a0_1, .int .i64 a0_2, .int .i64 a0_3, .int .i64 a0_4, .int .i64 a0_5, .int .i64 a0_6] 53 (0, 0)) (by (with_reducible repeat (first | refine zh ?_ _ | refine zj ?_ | refine zg ?_ _)); exact zA.out) hb); have n1_ := Aside0.mk (zm (by repeat (first | (with_reducible first | exact HB.out | apply zf | apply zc | apply ze | refine zk ?_ zE.out) | exact HB.out)) hb); have n2_ := Aside0.mk (hbox); have n3_ := Aside0.mk ((by rw [hg]; exact (zl (by repeat (first | (with_reducible first | exact HB.out | apply zf | apply zc | apply ze | refine zk ?_ zE.out) | exact HB.out))) : w.heap.size ≤ zD)); have n4_ := Aside0.mk ((by rw [hg]; exact (zl (by repeat (first | (with_reducible first | exact HB.out | apply zf | apply zc | apply ze | refine zk ?_ zE.out) | exact HB.out))) : w.heap.size ≤ zD)); have n5_ := Aside0.mk ((by rw [hg]; exact Nat.ne_of_lt (zy (g := zB) (o := .cells #[.string a0_0, .string a0_1, .int .i64 a0_2, .int .i64 a0_3, .int .i64 a0_4, .int .i64 a0_5, .int .i64 a0_6] 53 (0, 0)) (by (with_reducible repeat (first | refine zh ?_ _ | refine zj ?_ | refine zg ?_ _)); exact zA.out)) : zB ≠ zD)); have n6_ := Aside0.mk ((by rw [hg]; exact Nat.ne_of_gt (zy (g := zB) (o := .cells #[.string a0_0, .string a0_1, .int .i64 a0_2, .int .i64 a0_3, .int .i64 a0_4, .int .i64 a0_5, .int .i64 a0_6] 53 (0, 0)) (by (with_reducible repeat (first | refine zh ?_ _ | refine zj ?_ | refine zg ?_ _)); exact zA.out)) : zD ≠ zB)); clear zA; clear HB; have zA := n0_; have HB := n1_; have zC := n2_; have GW199 := n3_; have zH := n4_; have zF := n5_; have zG := n6_; clear n0_ n1_ n2_ n3_ n4_ n5_ n6_; clear hb hbox hg; have zef := zF.out; have zff := zG.out; have zoc : w26.cell? ⟨zB, 0, none⟩ = some (.string a0_0) := (zi zA.out 0).trans rfl; have zpc : w26.cell? ⟨zB, 1, none⟩ = some (.string a0_1) := (zi zA.out 1).trans rfl; have zqc : w26.cell? ⟨zB, 2, none⟩ = some (.int .i64 a0_2) := (zi zA.out 2).trans rfl; have zrc : w26.cell? ⟨zB, 3, none⟩ = some (.int .i64 a0_3) := (zi zA.out 3).trans rfl; have zsc : w26.cell? ⟨zB, 4, none⟩ = some (.int .i64 a0_4) := (zi zA.out 4).trans rfl; have ztc : w26.cell? ⟨zB, 5, none⟩ = some (.int .i64 a0_5) := (zi zA.out 5).trans rfl; have zuc : w26.cell? ⟨zB, 6, none⟩ = some (.int .i64 a0_6) := (zi zA.out 6).trans rfl; have zvc := zd zA.out 0; have zwc := zd zA.out 1; have zxc := zd zA.out 2; have zyc := zd zA.out 3; have zzc := zd zA.out 4; have zAc := zd zA.out 5; have zBc := zd zA.out 6; have zCc : w26.cell? ⟨zD, 0, none⟩ = some (.string a1_0) := (zi zC.out 0).trans rfl; have zDc : w26.cell? ⟨zD, 1, none⟩ = some (.string a1_1) := (zi zC.out 1).trans rfl; have zEc : w26.cell? ⟨zD, 2, none⟩ = some (.int .i64 a1_2) := (zi zC.out 2).trans rfl; have zFc : w26.cell? ⟨zD, 3, none⟩ = some (.int .i64 a1_3) := (zi zC.out 3).trans rfl; have zGc : w26.cell? ⟨zD, 4, none⟩ = some (.int .i64 a1_4) := (zi zC.out 4).trans rfl; have zHc : w26.cell? ⟨zD, 5, none⟩ = some (.int .i64 a1_5) := (zi zC.out 5).trans rfl; have zIc : w26.cell? ⟨zD, 6, none⟩ = some (.int .i64 a1_6) := (zi zC.out 6).trans rfl; have zJc := zd zC.out 0; have zKc := zd zC.out 1; have zLc := zd zC.out 2; have zMc := zd zC.out 3; have zNc := zd zC.out 4; have zOc := zd zC.out 5; have zPc := zd zC.out 6))
      go_ret
      exact ⟨by first | rfl | (simp [errW_none, errW_some] <;> rfl) | (simp [*, errW_none, errW_some] <;> rfl), by repeat (first | (with_reducible first | exact HB.out | apply zf | apply zc | apply ze | refine zk ?_ zE.out | refine zk ?_ zH.out) | exact HB.out)⟩
    ·rw [if_neg c6] at H
     have c6b0 : (a0_3 == a1_3) = false := beq_eq_false_iff_ne.mpr c6
     have c6b1 : (a0_3 != a1_3) = true := bne_iff_ne.mpr c6
     obtain rfl := Option.some.inj H
     go_enter Tryd.func74, Tryd.ntmps74
     go_wp2_with (first | ((with_reducible refine zw (N := 2) rfl ?_); refine zx ?hg (N := 2) ?hd (cs := #[.string a0_0, .string a0_1, .int .i64 a0_2, .int .i64 a0_3, .int .i64 a0_4, .int .i64 a0_5, .int .i64 a0_6]) (t := 53) ?hr ?_; (case hd => rfl); (case hg => rfl); (case hr => first | (go_simp; done) | (go_simp; rfl)); intro zB hg w30 hbox hb; have n0_ := Aside0.mk (zm (by repeat (first | (with_reducible first | exact HB.out | apply zf | apply zc | apply ze) | exact HB.out)) hb); have n1_ := Aside0.mk (hbox); have n2_ := Aside0.mk ((by rw [hg]; exact (zl (by repeat (first | (with_reducible first | exact HB.out | apply zf | apply zc | apply ze) | exact HB.out))) : w.heap.size ≤ zB)); have n3_ := Aside0.mk ((by rw [hg]; exact (zl (by repeat (first | (with_reducible first | exact HB.out | apply zf | apply zc | apply ze) | exact HB.out))) : w.heap.size ≤ zB)); clear HB; have HB := n0_; have zA := n1_; have GW198 := n2_; have zE := n3_; clear n0_ n1_ n2_ n3_; clear hb hbox hg) | ((with_reducible refine zw (N := 3) rfl ?_); refine zx ?hg (N := 3) ?hd (cs := #[.string a1_0, .string a1_1, .int .i64 a1_2, .int .i64 a1_3, .int .i64 a1_4, .int .i64 a1_5, .int .i64 a1_6]) (t := 53) ?hr ?_; (case hd => rfl); (case hg => rfl); (case hr => first | (go_simp; done) | (go_simp; rfl)); intro zD hg w31 hbox hb; have n0_ := Aside0.mk (zt (g := zB) (o := .cells #[.string a0_0, .string a0_1, .int .i64 a0_2, .int .i64 a0_3, .int .i64 a0_4, .int .i64 a0_5, .int .i64 a0_6] 53 (0, 0)) (by (with_reducible repeat (first | refine zh ?_ _ | refine zj ?_ | refine zg ?_ _)); exact zA.out) hb); have n1_ := Aside0.mk (zm (by repeat (first | (with_reducible first | exact HB.out | apply zf | apply zc | apply ze | refine zk ?_ zE.out) | exact HB.out)) hb); have n2_ := Aside0.mk (hbox); have n3_ := Aside0.mk ((by rw [hg]; exact (zl (by repeat (first | (with_reducible first | exact HB.out | apply zf | apply zc | apply ze | refine zk ?_ zE.out) | exact HB.out))) : w.heap.size ≤ zD)); have n4_ := Aside0.mk ((by rw [hg]; exact (zl (by repeat (first | (with_reducible first | exact HB.out | apply zf | apply zc | apply ze | refine zk ?_ zE.out) | exact HB.out))) : w.heap.size ≤ zD)); have n5_ := Aside0.mk ((by rw [hg]; exact Nat.ne_of_lt (zy (g := zB) (o := .cells #[.string a0_0, .string a0_1, .int .i64 a0_2, .int .i64 a0_3, .int .i64 a0_4, .int .i64 a0_5, .int .i64 a0_6] 53 (0, 0)) (by (with_reducible repeat (first | refine zh ?_ _ | refine zj ?_ | refine zg ?_ _)); exact zA.out)) : zB ≠ zD)); have n6_ := Aside0.mk ((by rw [hg]; exact Nat.ne_of_gt (zy (g := zB) (o := .cells #[.string a0_0, .string a0_1, .int .i64 a0_2, .int .i64 a0_3, .int .i64 a0_4, .int .i64 a0_5, .int .i64 a0_6] 53 (0, 0)) (by (with_reducible repeat (first | refine zh ?_ _ | refine zj ?_ | refine zg ?_ _)); exact zA.out)) : zD ≠ zB)); clear zA; clear HB; have zA := n0_; have HB := n1_; have zC := n2_; have GW199 := n3_; have zH := n4_; have zF := n5_; have zG := n6_; clear n0_ n1_ n2_ n3_ n4_ n5_ n6_; clear hb hbox hg; have zgf := zF.out; have zhf := zG.out; have zQc : w31.cell? ⟨zB, 0, none⟩ = some (.string a0_0) := (zi zA.out 0).trans rfl; have zRc : w31.cell? ⟨zB, 1, none⟩ = some (.string a0_1) := (zi zA.out 1).trans rfl; have zSc : w31.cell? ⟨zB, 2, none⟩ = some (.int .i64 a0_2) := (zi zA.out 2).trans rfl; have zTc : w31.cell? ⟨zB, 3, none⟩ = some (.int .i64 a0_3) := (zi zA.out 3).trans rfl; have zUc : w31.cell? ⟨zB, 4, none⟩ = some (.int .i64 a0_4) := (zi zA.out 4).trans rfl; have zVc : w31.cell? ⟨zB, 5, none⟩ = some (.int .i64 a0_5) := (zi zA.out 5).trans rfl; have zWc : w31.cell? ⟨zB, 6, none⟩ = some (.int .i64 a0_6) := (zi zA.out 6).trans rfl; have zXc := zd zA.out 0; have zYc := zd zA.out 1; have zZc := zd zA.out 2; have zad := zd zA.out 3; have zbd := zd zA.out 4; have zcd := zd zA.out 5; have zdd := zd zA.out 6; have zed : w31.cell? ⟨zD, 0, none⟩ = some (.string a1_0) := (zi zC.out 0).trans rfl; have zfd : w31.cell? ⟨zD, 1, none⟩ = some (.string a1_1) := (zi zC.out 1).trans rfl; have zgd : w31.cell? ⟨zD, 2, none⟩ = some (.int .i64 a1_2) := (zi zC.out 2).trans rfl; have zhd : w31.cell? ⟨zD, 3, none⟩ = some (.int .i64 a1_3) := (zi zC.out 3).trans rfl; have zid : w31.cell? ⟨zD, 4, none⟩ = some (.int .i64 a1_4) := (zi zC.out 4).trans rfl; have zjd : w31.cell? ⟨zD, 5, none⟩ = some (.int .i64 a1_5) := (zi zC.out 5).trans rfl; have zkd : w31.cell? ⟨zD, 6, none⟩ = some (.int .i64 a1_6) := (zi zC.out 6).trans rfl; have zld := zd zC.out 0; have zmd := zd zC.out 1; have znd := zd zC.out 2; have zod := zd zC.out 3; have zpd := zd zC.out 4; have zqd := zd zC.out 5; have zrd := zd zC.out 6))
     go_ret
     exact ⟨by first | rfl | (simp [errW_none, errW_some] <;> rfl) | (simp [*, errW_none, errW_some] <;> rfl), by repeat (first | (with_reducible first | exact HB.out | apply zf | apply zc | apply ze | refine zk ?_ zE.out | refine zk ?_ zH.out) | exact HB.out)⟩
   ·rw [if_neg c5] at H
    have c5b0 : (a0_2 == a1_2) = false := beq_eq_false_iff_ne.mpr c5
    have c5b1 : (a0_2 != a1_2) = true := bne_iff_ne.mpr c5
    obtain rfl := Option.some.inj H
    go_enter Tryd.func74, Tryd.ntmps74
    go_wp2_with (first | ((with_reducible refine zw (N := 2) rfl ?_); refine zx ?hg (N := 2) ?hd (cs := #[.string a0_0, .string a0_1, .int .i64 a0_2, .int .i64 a0_3, .int .i64 a0_4, .int .i64 a0_5, .int .i64 a0_6]) (t := 53) ?hr ?_; (case hd => rfl); (case hg => rfl); (case hr => first | (go_simp; done) | (go_simp; rfl)); intro zB hg w35 hbox hb; have n0_ := Aside0.mk (zm (by repeat (first | (with_reducible first | exact HB.out | apply zf | apply zc | apply ze) | exact HB.out)) hb); have n1_ := Aside0.mk (hbox); have n2_ := Aside0.mk ((by rw [hg]; exact (zl (by repeat (first | (with_reducible first | exact HB.out | apply zf | apply zc | apply ze) | exact HB.out))) : w.heap.size ≤ zB)); have n3_ := Aside0.mk ((by rw [hg]; exact (zl (by repeat (first | (with_reducible first | exact HB.out | apply zf | apply zc | apply ze) | exact HB.out))) : w.heap.size ≤ zB)); clear HB; have HB := n0_; have zA := n1_; have GW198 := n2_; have zE := n3_; clear n0_ n1_ n2_ n3_; clear hb hbox hg) | ((with_reducible refine zw (N := 3) rfl ?_); refine zx ?hg (N := 3) ?hd (cs := #[.string a1_0, .string a1_1, .int .i64 a1_2, .int .i64 a1_3, .int .i64 a1_4, .int .i64 a1_5, .int .i64 a1_6]) (t := 53) ?hr ?_; (case hd => rfl); (case hg => rfl); (case hr => first | (go_simp; done) | (go_simp; rfl)); intro zD hg w36 hbox hb; have n0_ := Aside0.mk (zt (g := zB) (o := .cells #[.string a0_0, .string a0_1, .int .i64 a0_2, .int .i64 a0_3, .int .i64 a0_4, .int .i64 a0_5, .int .i64 a0_6] 53 (0, 0)) (by (with_reducible repeat (first | refine zh ?_ _ | refine zj ?_ | refine zg ?_ _)); exact zA.out) hb); have n1_ := Aside0.mk (zm (by repeat (first | (with_reducible first | exact HB.out | apply zf | apply zc | apply ze | refine zk ?_ zE.out) | exact HB.out)) hb); have n2_ := Aside0.mk (hbox); have n3_ := Aside0.mk ((by rw [hg]; exact (zl (by repeat (first | (with_reducible first | exact HB.out | apply zf | apply zc | apply ze | refine zk ?_ zE.out) | exact HB.out))) : w.heap.size ≤ zD)); have n4_ := Aside0.mk ((by rw [hg]; exact (zl (by repeat (first | (with_reducible first | exact HB.out | apply zf | apply zc | apply ze | refine zk ?_ zE.out) | exact HB.out))) : w.heap.size ≤ zD)); have n5_ := Aside0.mk ((by rw [hg]; exact Nat.ne_of_lt (zy (g := zB) (o := .cells #[.string a0_0, .string a0_1, .int .i64 a0_2, .int .i64 a0_3, .int .i64 a0_4, .int .i64 a0_5, .int .i64 a0_6] 53 (0, 0)) (by (with_reducible repeat (first | refine zh ?_ _ | refine zj ?_ | refine zg ?_ _)); exact zA.out)) : zB ≠ zD)); have n6_ := Aside0.mk ((by rw [hg]; exact Nat.ne_of_gt (zy (g := zB) (o := .cells #[.string a0_0, .string a0_1, .int .i64 a0_2, .int .i64 a0_3, .int .i64 a0_4, .int .i64 a0_5, .int .i64 a0_6] 53 (0, 0)) (by (with_reducible repeat (first | refine zh ?_ _ | refine zj ?_ | refine zg ?_ _)); exact zA.out)) : zD ≠ zB)); clear zA; clear HB; have zA := n0_; have HB := n1_; have zC := n2_; have GW199 := n3_; have zH := n4_; have zF := n5_; have zG := n6_; clear n0_ n1_ n2_ n3_ n4_ n5_ n6_; clear hb hbox hg; have zif := zF.out; have zjf := zG.out; have zsd : w36.cell? ⟨zB, 0, none⟩ = some (.string a0_0) := (zi zA.out 0).trans rfl; have ztd : w36.cell? ⟨zB, 1, none⟩ = some (.string a0_1) := (zi zA.out 1).trans rfl; have zud : w36.cell? ⟨zB, 2, none⟩ = some (.int .i64 a0_2) := (zi zA.out 2).trans rfl; have zvd : w36.cell? ⟨zB, 3, none⟩ = some (.int .i64 a0_3) := (zi zA.out 3).trans rfl; have zwd : w36.cell? ⟨zB, 4, none⟩ = some (.int .i64 a0_4) := (zi zA.out 4).trans rfl; have zxd : w36.cell? ⟨zB, 5, none⟩ = some (.int .i64 a0_5) := (zi zA.out 5).trans rfl; have zyd : w36.cell? ⟨zB, 6, none⟩ = some (.int .i64 a0_6) := (zi zA.out 6).trans rfl; have zzd := zd zA.out 0; have zAd := zd zA.out 1; have zBd := zd zA.out 2; have zCd := zd zA.out 3; have zDd := zd zA.out 4; have zEd := zd zA.out 5; have zFd := zd zA.out 6; have zGd : w36.cell? ⟨zD, 0, none⟩ = some (.string a1_0) := (zi zC.out 0).trans rfl; have zHd : w36.cell? ⟨zD, 1, none⟩ = some (.string a1_1) := (zi zC.out 1).trans rfl; have zId : w36.cell? ⟨zD, 2, none⟩ = some (.int .i64 a1_2) := (zi zC.out 2).trans rfl; have zJd : w36.cell? ⟨zD, 3, none⟩ = some (.int .i64 a1_3) := (zi zC.out 3).trans rfl; have zKd : w36.cell? ⟨zD, 4, none⟩ = some (.int .i64 a1_4) := (zi zC.out 4).trans rfl; have zLd : w36.cell? ⟨zD, 5, none⟩ = some (.int .i64 a1_5) := (zi zC.out 5).trans rfl; have zMd : w36.cell? ⟨zD, 6, none⟩ = some (.int .i64 a1_6) := (zi zC.out 6).trans rfl; have zNd := zd zC.out 0; have zOd := zd zC.out 1; have zPd := zd zC.out 2; have zQd := zd zC.out 3; have zRd := zd zC.out 4; have zSd := zd zC.out 5; have zTd := zd zC.out 6))
    go_ret
    exact ⟨by first | rfl | (simp [errW_none, errW_some] <;> rfl) | (simp [*, errW_none, errW_some] <;> rfl), by repeat (first | (with_reducible first | exact HB.out | apply zf | apply zc | apply ze | refine zk ?_ zE.out | refine zk ?_ zH.out) | exact HB.out)⟩
  ·rw [if_neg c4] at H
   have c4b0 : (a0_1.toList == a1_1.toList) = false := beq_eq_false_iff_ne.mpr c4
   have c4b1 : (a0_1.toList != a1_1.toList) = true := bne_iff_ne.mpr c4
   obtain rfl := Option.some.inj H
   go_enter Tryd.func74, Tryd.ntmps74
   go_wp2_with (first | ((with_reducible refine zw (N := 2) rfl ?_); refine zx ?hg (N := 2) ?hd (cs := #[.string a0_0, .string a0_1, .int .i64 a0_2, .int .i64 a0_3, .int .i64 a0_4, .int .i64 a0_5, .int .i64 a0_6]) (t := 53) ?hr ?_; (case hd => rfl); (case hg => rfl); (case hr => first | (go_simp; done) | (go_simp; rfl)); intro zB hg w40 hbox hb; have n0_ := Aside0.mk (zm (by repeat (first | (with_reducible first | exact HB.out | apply zf | apply zc | apply ze) | exact HB.out)) hb); have n1_ := Aside0.mk (hbox); have n2_ := Aside0.mk ((by rw [hg]; exact (zl (by repeat (first | (with_reducible first | exact HB.out | apply zf | apply zc | apply ze) | exact HB.out))) : w.heap.size ≤ zB)); have n3_ := Aside0.mk ((by rw [hg]; exact (zl (by repeat (first | (with_reducible first | exact HB.out | apply zf | apply zc | apply ze) | exact HB.out))) : w.heap.size ≤ zB)); clear HB; have HB := n0_; have zA := n1_; have GW198 := n2_; have zE := n3_; clear n0_ n1_ n2_ n3_; clear hb hbox hg) | ((with_reducible refine zw (N := 3) rfl ?_); refine zx ?hg (N := 3) ?hd (cs := #[.string a1_0, .string a1_1, .int .i64 a1_2, .int .i64 a1_3, .int .i64 a1_4, .int .i64 a1_5, .int .i64 a1_6]) (t := 53) ?hr ?_; (case hd => rfl); (case hg => rfl); (case hr => first | (go_simp; done) | (go_simp; rfl)); intro zD hg w41 hbox hb; have n0_ := Aside0.mk (zt (g := zB) (o := .cells #[.string a0_0, .string a0_1, .int .i64 a0_2, .int .i64 a0_3, .int .i64 a0_4, .int .i64 a0_5, .int .i64 a0_6] 53 (0, 0)) (by (with_reducible repeat (first | refine zh ?_ _ | refine zj ?_ | refine zg ?_ _)); exact zA.out) hb); have n1_ := Aside0.mk (zm (by repeat (first | (with_reducible first | exact HB.out | apply zf | apply zc | apply ze | refine zk ?_ zE.out) | exact HB.out)) hb); have n2_ := Aside0.mk (hbox); have n3_ := Aside0.mk ((by rw [hg]; exact (zl (by repeat (first | (with_reducible first | exact HB.out | apply zf | apply zc | apply ze | refine zk ?_ zE.out) | exact HB.out))) : w.heap.size ≤ zD)); have n4_ := Aside0.mk ((by rw [hg]; exact (zl (by repeat (first | (with_reducible first | exact HB.out | apply zf | apply zc | apply ze | refine zk ?_ zE.out) | exact HB.out))) : w.heap.size ≤ zD)); have n5_ := Aside0.mk ((by rw [hg]; exact Nat.ne_of_lt (zy (g := zB) (o := .cells #[.string a0_0, .string a0_1, .int .i64 a0_2, .int .i64 a0_3, .int .i64 a0_4, .int .i64 a0_5, .int .i64 a0_6] 53 (0, 0)) (by (with_reducible repeat (first | refine zh ?_ _ | refine zj ?_ | refine zg ?_ _)); exact zA.out)) : zB ≠ zD)); have n6_ := Aside0.mk ((by rw [hg]; exact Nat.ne_of_gt (zy (g := zB) (o := .cells #[.string a0_0, .string a0_1, .int .i64 a0_2, .int .i64 a0_3, .int .i64 a0_4, .int .i64 a0_5, .int .i64 a0_6] 53 (0, 0)) (by (with_reducible repeat (first | refine zh ?_ _ | refine zj ?_ | refine zg ?_ _)); exact zA.out)) : zD ≠ zB)); clear zA; clear HB; have zA := n0_; have HB := n1_; have zC := n2_; have GW199 := n3_; have zH := n4_; have zF := n5_; have zG := n6_; clear n0_ n1_ n2_ n3_ n4_ n5_ n6_; clear hb hbox hg; have zkf := zF.out; have zlf := zG.out; have zUd : w41.cell? ⟨zB, 0, none⟩ = some (.string a0_0) := (zi zA.out 0).trans rfl; have zVd : w41.cell? ⟨zB, 1, none⟩ = some (.string a0_1) := (zi zA.out 1).trans rfl; have zWd : w41.cell? ⟨zB, 2, none⟩ = some (.int .i64 a0_2) := (zi zA.out 2).trans rfl; have zXd : w41.cell? ⟨zB, 3, none⟩ = some (.int .i64 a0_3) := (zi zA.out 3).trans rfl; have zYd : w41.cell? ⟨zB, 4, none⟩ = some (.int .i64 a0_4) := (zi zA.out 4).trans rfl; have zZd : w41.cell? ⟨zB, 5, none⟩ = some (.int .i64 a0_5) := (zi zA.out 5).trans rfl; have zae : w41.cell? ⟨zB, 6, none⟩ = some (.int .i64 a0_6) := (zi zA.out 6).trans rfl; have zbe := zd zA.out 0; have zce := zd zA.out 1; have zde := zd zA.out 2; have zee := zd zA.out 3; have zfe := zd zA.out 4; have zge := zd zA.out 5; have zhe := zd zA.out 6; have zie : w41.cell? ⟨zD, 0, none⟩ = some (.string a1_0) := (zi zC.out 0).trans rfl; have zje : w41.cell? ⟨zD, 1, none⟩ = some (.string a1_1) := (zi zC.out 1).trans rfl; have zke : w41.cell? ⟨zD, 2, none⟩ = some (.int .i64 a1_2) := (zi zC.out 2).trans rfl; have zle : w41.cell? ⟨zD, 3, none⟩ = some (.int .i64 a1_3) := (zi zC.out 3).trans rfl; have zme : w41.cell? ⟨zD, 4, none⟩ = some (.int .i64 a1_4) := (zi zC.out 4).trans rfl; have zne : w41.cell? ⟨zD, 5, none⟩ = some (.int .i64 a1_5) := (zi zC.out 5).trans rfl; have zoe : w41.cell? ⟨zD, 6, none⟩ = some (.int .i64 a1_6) := (zi zC.out 6).trans rfl; have zpe := zd zC.out 0; have zqe := zd zC.out 1; have zre := zd zC.out 2; have zse := zd zC.out 3; have zte := zd zC.out 4; have zue := zd zC.out 5; have zve := zd zC.out 6))
   go_ret
   exact ⟨by first | rfl | (simp [errW_none, errW_some] <;> rfl) | (simp [*, errW_none, errW_some] <;> rfl), by repeat (first | (with_reducible first | exact HB.out | apply zf | apply zc | apply ze | refine zk ?_ zE.out | refine zk ?_ zH.out) | exact HB.out)⟩
 ·rw [if_neg c3] at H
  have c3b0 : (a0_0.toList == a1_0.toList) = false := beq_eq_false_iff_ne.mpr c3
  have c3b1 : (a0_0.toList != a1_0.toList) = true := bne_iff_ne.mpr c3
  obtain rfl := Option.some.inj H
  go_enter Tryd.func74, Tryd.ntmps74
  go_wp2_with (first | ((with_reducible refine zw (N := 2) rfl ?_); refine zx ?hg (N := 2) ?hd (cs := #[.string a0_0, .string a0_1, .int .i64 a0_2, .int .i64 a0_3, .int .i64 a0_4, .int .i64 a0_5, .int .i64 a0_6]) (t := 53) ?hr ?_; (case hd => rfl); (case hg => rfl); (case hr => first | (go_simp; done) | (go_simp; rfl)); intro zB hg w45 hbox hb; have n0_ := Aside0.mk (zm (by repeat (first | (with_reducible first | exact HB.out | apply zf | apply zc | apply ze) | exact HB.out)) hb); have n1_ := Aside0.mk (hbox); have n2_ := Aside0.mk ((by rw [hg]; exact (zl (by repeat (first | (with_reducible first | exact HB.out | apply zf | apply zc | apply ze) | exact HB.out))) : w.heap.size ≤ zB)); have n3_ := Aside0.mk ((by rw [hg]; exact (zl (by repeat (first | (with_reducible first | exact HB.out | apply zf | apply zc | apply ze) | exact HB.out))) : w.heap.size ≤ zB)); clear HB; have HB := n0_; have zA := n1_; have GW198 := n2_; have zE := n3_; clear n0_ n1_ n2_ n3_; clear hb hbox hg) | ((with_reducible refine zw (N := 3) rfl ?_); refine zx ?hg (N := 3) ?hd (cs := #[.string a1_0, .string a1_1, .int .i64 a1_2, .int .i64 a1_3, .int .i64 a1_4, .int .i64 a1_5, .int .i64 a1_6]) (t := 53) ?hr ?_; (case hd => rfl); (case hg => rfl); (case hr => first | (go_simp; done) | (go_simp; rfl)); intro zD hg w46 hbox hb; have n0_ := Aside0.mk (zt (g := zB) (o := .cells #[.string a0_0, .string a0_1, .int .i64 a0_2, .int .i64 a0_3, .int .i64 a0_4, .int .i64 a0_5, .int .i64 a0_6] 53 (0, 0)) (by (with_reducible repeat (first | refine zh ?_ _ | refine zj ?_ | refine zg ?_ _)); exact zA.out) hb); have n1_ := Aside0.mk (zm (by repeat (first | (with_reducible first | exact HB.out | apply zf | apply zc | apply ze | refine zk ?_ zE.out) | exact HB.out)) hb); have n2_ := Aside0.mk (hbox); have n3_ := Aside0.mk ((by rw [hg]; exact (zl (by repeat (first | (with_reducible first | exact HB.out | apply zf | apply zc | apply ze | refine zk ?_ zE.out) | exact HB.out))) : w.heap.size ≤ zD)); have n4_ := Aside0.mk ((by rw [hg]; exact (zl (by repeat (first | (with_reducible first | exact HB.out | apply zf | apply zc | apply ze | refine zk ?_ zE.out) | exact HB.out))) : w.heap.size ≤ zD)); have n5_ := Aside0.mk ((by rw [hg]; exact Nat.ne_of_lt (zy (g := zB) (o := .cells #[.string a0_0, .string a0_1, .int .i64 a0_2, .int .i64 a0_3, .int .i64 a0_4, .int .i64 a0_5, .int .i64 a0_6] 53 (0, 0)) (by (with_reducible repeat (first | refine zh ?_ _ | refine zj ?_ | refine zg ?_ _)); exact zA.out)) : zB ≠ zD)); have n6_ := Aside0.mk ((by rw [hg]; exact Nat.ne_of_gt (zy (g := zB) (o := .cells #[.string a0_0, .string a0_1, .int .i64 a0_2, .int .i64 a0_3, .int .i64 a0_4, .int .i64 a0_5, .int .i64 a0_6] 53 (0, 0)) (by (with_reducible repeat (first | refine zh ?_ _ | refine zj ?_ | refine zg ?_ _)); exact zA.out)) : zD ≠ zB)); clear zA; clear HB; have zA := n0_; have HB := n1_; have zC := n2_; have GW199 := n3_; have zH := n4_; have zF := n5_; have zG := n6_; clear n0_ n1_ n2_ n3_ n4_ n5_ n6_; clear hb hbox hg; have zmf := zF.out; have znf := zG.out; have zwe : w46.cell? ⟨zB, 0, none⟩ = some (.string a0_0) := (zi zA.out 0).trans rfl; have zxe : w46.cell? ⟨zB, 1, none⟩ = some (.string a0_1) := (zi zA.out 1).trans rfl; have zye : w46.cell? ⟨zB, 2, none⟩ = some (.int .i64 a0_2) := (zi zA.out 2).trans rfl; have zze : w46.cell? ⟨zB, 3, none⟩ = some (.int .i64 a0_3) := (zi zA.out 3).trans rfl; have zAe : w46.cell? ⟨zB, 4, none⟩ = some (.int .i64 a0_4) := (zi zA.out 4).trans rfl; have zBe : w46.cell? ⟨zB, 5, none⟩ = some (.int .i64 a0_5) := (zi zA.out 5).trans rfl; have zCe : w46.cell? ⟨zB, 6, none⟩ = some (.int .i64 a0_6) := (zi zA.out 6).trans rfl; have zDe := zd zA.out 0; have zEe := zd zA.out 1; have zFe := zd zA.out 2; have zGe := zd zA.out 3; have zHe := zd zA.out 4; have zIe := zd zA.out 5; have zJe := zd zA.out 6; have zKe : w46.cell? ⟨zD, 0, none⟩ = some (.string a1_0) := (zi zC.out 0).trans rfl; have zLe : w46.cell? ⟨zD, 1, none⟩ = some (.string a1_1) := (zi zC.out 1).trans rfl; have zMe : w46.cell? ⟨zD, 2, none⟩ = some (.int .i64 a1_2) := (zi zC.out 2).trans rfl; have zNe : w46.cell? ⟨zD, 3, none⟩ = some (.int .i64 a1_3) := (zi zC.out 3).trans rfl; have zOe : w46.cell? ⟨zD, 4, none⟩ = some (.int .i64 a1_4) := (zi zC.out 4).trans rfl; have zPe : w46.cell? ⟨zD, 5, none⟩ = some (.int .i64 a1_5) := (zi zC.out 5).trans rfl; have zQe : w46.cell? ⟨zD, 6, none⟩ = some (.int .i64 a1_6) := (zi zC.out 6).trans rfl; have zRe := zd zC.out 0; have zSe := zd zC.out 1; have zTe := zd zC.out 2; have zUe := zd zC.out 3; have zVe := zd zC.out 4; have zWe := zd zC.out 5; have zXe := zd zC.out 6))
  go_ret
  exact ⟨by first | rfl | (simp [errW_none, errW_some] <;> rfl) | (simp [*, errW_none, errW_some] <;> rfl), by repeat (first | (with_reducible first | exact HB.out | apply zf | apply zc | apply ze | refine zk ?_ zE.out | refine zk ?_ zH.out) | exact HB.out)⟩

def laws_eqEffect.f (a0_0 : Bool) (a0_1 : ByteArray) (a0_2 : ByteArray) (a0_3 : Int) (a0_4 : Int) (a0_5 : Int) (a0_6 : Int) (a0_7 : Int) (a1_0 : Bool) (a1_1 : ByteArray) (a1_2 : ByteArray) (a1_3 : Int) (a1_4 : Int) (a1_5 : Int) (a1_6 : Int) (a1_7 : Int) : Option (Bool) := if (a0_0 != a1_0) = true then (some false) else ((laws_eqNode.f a0_1 a0_2 a0_3 a0_4 a0_5 a0_6 a0_7 a1_1 a1_2 a1_3 a1_4 a1_5 a1_6 a1_7).bind fun t202 => (if t202 = true then (some true) else (some false)))
set_option maxHeartbeats 8000000 in
set_option maxRecDepth 100000 in
theorem laws_eqEffect.calls (a0_0 : Bool) (a0_1 : ByteArray) (a0_2 : ByteArray) (a0_3 : Int) (a0_4 : Int) (a0_5 : Int) (a0_6 : Int) (a0_7 : Int) (a1_0 : Bool) (a1_1 : ByteArray) (a1_2 : ByteArray) (a1_3 : Int) (a1_4 : Int) (a1_5 : Int) (a1_6 : Int) (a1_7 : Int) (r : Bool) (w : World) (h : laws_eqEffect.f a0_0 a0_1 a0_2 a0_3 a0_4 a0_5 a0_6 a0_7 a1_0 a1_1 a1_2 a1_3 a1_4 a1_5 a1_6 a1_7 = some r) :
  Calls Tryd.prog 76 #[.agg #[.bool a0_0, .string a0_1, .string a0_2, .int .i64 a0_3, .int .i64 a0_4, .int .i64 a0_5, .int .i64 a0_6, .int .i64 a0_7], .agg #[.bool a1_0, .string a1_1, .string a1_2, .int .i64 a1_3, .int .i64 a1_4, .int .i64 a1_5, .int .i64 a1_6, .int .i64 a1_7]] w fun e w' => e = .returned (.bool r) ∧ Below w.heap.size w w' := by
 have hu55 := Tryd.underlying55
 have hu53 := Tryd.underlying53
 have HB := Aside0.mk (Below.refl w.heap.size w)
 have H : (if (a0_0 != a1_0) = true then (some false) else ((laws_eqNode.f a0_1 a0_2 a0_3 a0_4 a0_5 a0_6 a0_7 a1_1 a1_2 a1_3 a1_4 a1_5 a1_6 a1_7).bind fun t202 => (if t202 = true then (some true) else (some false)))) = some r := h
 clear h
 by_cases c3 : (a0_0 != a1_0) = true
 ·rw [if_pos c3] at H
  have c3b0 : (a0_0 != a1_0) = true := c3
  (try (have c3b1 : decide (a0_0 = a1_0) = false := by simpa using c3))
  (try (have c3b2 : (a0_0 == a1_0) = false := by simpa using c3))
  (try (have c3b3 : ¬ (a0_0 = a1_0) := by simpa using c3))
  clear c3
  obtain rfl := Option.some.inj H
  go_enter Tryd.func76, Tryd.ntmps76
  go_wp2_with (first | ((with_reducible refine zw (N := 2) rfl ?_); refine zx ?hg (N := 2) ?hd (cs := #[.bool a0_0, .string a0_1, .string a0_2, .int .i64 a0_3, .int .i64 a0_4, .int .i64 a0_5, .int .i64 a0_6, .int .i64 a0_7]) (t := 55) ?hr ?_; (case hd => rfl); (case hg => rfl); (case hr => first | (go_simp; done) | (go_simp; rfl)); intro zC hg w4 hbox hb; have n0_ := Aside0.mk (zm (by repeat (first | (with_reducible first | exact HB.out | apply zf | apply zc | apply ze) | exact HB.out)) hb); have n1_ := Aside0.mk (hbox); have n2_ := Aside0.mk ((by rw [hg]; exact (zl (by repeat (first | (with_reducible first | exact HB.out | apply zf | apply zc | apply ze) | exact HB.out))) : w.heap.size ≤ zC)); have n3_ := Aside0.mk ((by rw [hg]; exact (zl (by repeat (first | (with_reducible first | exact HB.out | apply zf | apply zc | apply ze) | exact HB.out))) : w.heap.size ≤ zC)); clear HB; have HB := n0_; have zA := n1_; have GW200 := n2_; have zE := n3_; clear n0_ n1_ n2_ n3_; clear hb hbox hg) | ((with_reducible refine zw (N := 3) rfl ?_); refine zx ?hg (N := 3) ?hd (cs := #[.bool a1_0, .string a1_1, .string a1_2, .int .i64 a1_3, .int .i64 a1_4, .int .i64 a1_5, .int .i64 a1_6, .int .i64 a1_7]) (t := 55) ?hr ?_; (case hd => rfl); (case hg => rfl); (case hr => first | (go_simp; done) | (go_simp; rfl)); intro zD hg w5 hbox hb; have n0_ := Aside0.mk (zt (g := zC) (o := .cells #[.bool a0_0, .string a0_1, .string a0_2, .int .i64 a0_3, .int .i64 a0_4, .int .i64 a0_5, .int .i64 a0_6, .int .i64 a0_7] 55 (0, 0)) (by (with_reducible repeat (first | refine zh ?_ _ | refine zj ?_ | refine zg ?_ _)); exact zA.out) hb); have n1_ := Aside0.mk (zm (by repeat (first | (with_reducible first | exact HB.out | apply zf | apply zc | apply ze | refine zk ?_ zE.out) | exact HB.out)) hb); have n2_ := Aside0.mk (hbox); have n3_ := Aside0.mk ((by rw [hg]; exact (zl (by repeat (first | (with_reducible first | exact HB.out | apply zf | apply zc | apply ze | refine zk ?_ zE.out) | exact HB.out))) : w.heap.size ≤ zD)); have n4_ := Aside0.mk ((by rw [hg]; exact (zl (by repeat (first | (with_reducible first | exact HB.out | apply zf | apply zc | apply ze | refine zk ?_ zE.out) | exact HB.out))) : w.heap.size ≤ zD)); have n5_ := Aside0.mk ((by rw [hg]; exact Nat.ne_of_lt (zy (g := zC) (o := .cells #[.bool a0_0, .string a0_1, .string a0_2, .int .i64 a0_3, .int .i64 a0_4, .int .i64 a0_5, .int .i64 a0_6, .int .i64 a0_7] 55 (0, 0)) (by (with_reducible repeat (first | refine zh ?_ _ | refine zj ?_ | refine zg ?_ _)); exact zA.out)) : zC ≠ zD)); have n6_ := Aside0.mk ((by rw [hg]; exact Nat.ne_of_gt (zy (g := zC) (o := .cells #[.bool a0_0, .string a0_1, .string a0_2, .int .i64 a0_3, .int .i64 a0_4, .int .i64 a0_5, .int .i64 a0_6, .int .i64 a0_7] 55 (0, 0)) (by (with_reducible repeat (first | refine zh ?_ _ | refine zj ?_ | refine zg ?_ _)); exact zA.out)) : zD ≠ zC)); clear zA; clear HB; have zA := n0_; have HB := n1_; have zB := n2_; have GW201 := n3_; have zH := n4_; have zF := n5_; have zG := n6_; clear n0_ n1_ n2_ n3_ n4_ n5_ n6_; clear hb hbox hg; have zEc := zF.out; have zFc := zG.out; have zUb : w5.cell? ⟨zC, 0, none⟩ = some (.bool a0_0) := (zi zA.out 0).trans rfl; have zVb : w5.cell? ⟨zC, 1, none⟩ = some (.string a0_1) := (zi zA.out 1).trans rfl; have zWb : w5.cell? ⟨zC, 2, none⟩ = some (.string a0_2) := (zi zA.out 2).trans rfl; have zXb : w5.cell? ⟨zC, 3, none⟩ = some (.int .i64 a0_3) := (zi zA.out 3).trans rfl; have zYb : w5.cell? ⟨zC, 4, none⟩ = some (.int .i64 a0_4) := (zi zA.out 4).trans rfl; have zZb : w5.cell? ⟨zC, 5, none⟩ = some (.int .i64 a0_5) := (zi zA.out 5).trans rfl; have zac : w5.cell? ⟨zC, 6, none⟩ = some (.int .i64 a0_6) := (zi zA.out 6).trans rfl; have zbc : w5.cell? ⟨zC, 7, none⟩ = some (.int .i64 a0_7) := (zi zA.out 7).trans rfl; have zcc := zd zA.out 0; have zdc := zd zA.out 1; have zec := zd zA.out 2; have zfc := zd zA.out 3; have zgc := zd zA.out 4; have zhc := zd zA.out 5; have zic := zd zA.out 6; have zjc := zd zA.out 7; have zkc : w5.cell? ⟨zD, 0, none⟩ = some (.bool a1_0) := (zi zB.out 0).trans rfl; have zlc : w5.cell? ⟨zD, 1, none⟩ = some (.string a1_1) := (zi zB.out 1).trans rfl; have zmc : w5.cell? ⟨zD, 2, none⟩ = some (.string a1_2) := (zi zB.out 2).trans rfl; have znc : w5.cell? ⟨zD, 3, none⟩ = some (.int .i64 a1_3) := (zi zB.out 3).trans rfl; have zoc : w5.cell? ⟨zD, 4, none⟩ = some (.int .i64 a1_4) := (zi zB.out 4).trans rfl; have zpc : w5.cell? ⟨zD, 5, none⟩ = some (.int .i64 a1_5) := (zi zB.out 5).trans rfl; have zqc : w5.cell? ⟨zD, 6, none⟩ = some (.int .i64 a1_6) := (zi zB.out 6).trans rfl; have zrc : w5.cell? ⟨zD, 7, none⟩ = some (.int .i64 a1_7) := (zi zB.out 7).trans rfl; have zsc := zd zB.out 0; have ztc := zd zB.out 1; have zuc := zd zB.out 2; have zvc := zd zB.out 3; have zwc := zd zB.out 4; have zxc := zd zB.out 5; have zyc := zd zB.out 6; have zzc := zd zB.out 7))
  go_ret
  exact ⟨by first | rfl | (simp [errW_none, errW_some] <;> rfl) | (simp [*, errW_none, errW_some] <;> rfl), by repeat (first | (with_reducible first | exact HB.out | apply zf | apply zc | apply ze | refine zk ?_ zE.out | refine zk ?_ zH.out) | exact HB.out)⟩
 ·rw [if_neg c3] at H
  have c3b0 : (a0_0 != a1_0) = false := by simpa using c3
  (try (have c3b1 : decide (a0_0 = a1_0) = true := by simpa using c3))
  (try (have c3b2 : (a0_0 == a1_0) = true := by simpa using c3))
  clear c3
  replace H := Option.bind_eq_some_iff.mp H
  obtain ⟨t202, A90, H⟩ := H
  replace H : (if t202 = true then (some true) else (some false)) = some r := H
  have A9 := Aside0.mk A90
  clear A90
  by_cases c10 : t202 = true
  ·subst c10
   have H1 : (some true) = some r := by rw [if_pos rfl] at H; exact H
   clear H
   have H := H1
   clear H1
   obtain rfl := Option.some.inj H
   go_enter Tryd.func76, Tryd.ntmps76
   go_wp2_with (first | ((with_reducible refine zw (N := 2) rfl ?_); refine zx ?hg (N := 2) ?hd (cs := #[.bool a0_0, .string a0_1, .string a0_2, .int .i64 a0_3, .int .i64 a0_4, .int .i64 a0_5, .int .i64 a0_6, .int .i64 a0_7]) (t := 55) ?hr ?_; (case hd => rfl); (case hg => rfl); (case hr => first | (go_simp; done) | (go_simp; rfl)); intro zC hg w11 hbox hb; have n0_ := Aside0.mk (zm (by repeat (first | (with_reducible first | exact HB.out | apply zf | apply zc | apply ze) | exact HB.out)) hb); have n1_ := Aside0.mk (hbox); have n2_ := Aside0.mk ((by rw [hg]; exact (zl (by repeat (first | (with_reducible first | exact HB.out | apply zf | apply zc | apply ze) | exact HB.out))) : w.heap.size ≤ zC)); have n3_ := Aside0.mk ((by rw [hg]; exact (zl (by repeat (first | (with_reducible first | exact HB.out | apply zf | apply zc | apply ze) | exact HB.out))) : w.heap.size ≤ zC)); clear HB; have HB := n0_; have zA := n1_; have GW200 := n2_; have zE := n3_; clear n0_ n1_ n2_ n3_; clear hb hbox hg) | ((with_reducible refine zw (N := 3) rfl ?_); refine zx ?hg (N := 3) ?hd (cs := #[.bool a1_0, .string a1_1, .string a1_2, .int .i64 a1_3, .int .i64 a1_4, .int .i64 a1_5, .int .i64 a1_6, .int .i64 a1_7]) (t := 55) ?hr ?_; (case hd => rfl); (case hg => rfl); (case hr => first | (go_simp; done) | (go_simp; rfl)); intro zD hg w12 hbox hb; have n0_ := Aside0.mk (zt (g := zC) (o := .cells #[.bool a0_0, .string a0_1, .string a0_2, .int .i64 a0_3, .int .i64 a0_4, .int .i64 a0_5, .int .i64 a0_6, .int .i64 a0_7] 55 (0, 0)) (by (with_reducible repeat (first | refine zh ?_ _ | refine zj ?_ | refine zg ?_ _)); exact zA.out) hb); have n1_ := Aside0.mk (zm (by repeat (first | (with_reducible first | exact HB.out | apply zf | apply zc | apply ze | refine zk ?_ zE.out) | exact HB.out)) hb); have n2_ := Aside0.mk (hbox); have n3_ := Aside0.mk ((by rw [hg]; exact (zl (by repeat (first | (with_reducible first | exact HB.out | apply zf | apply zc | apply ze | refine zk ?_ zE.out) | exact HB.out))) : w.heap.size ≤ zD)); have n4_ := Aside0.mk ((by rw [hg]; exact (zl (by repeat (first | (with_reducible first | exact HB.out | apply zf | apply zc | apply ze | refine zk ?_ zE.out) | exact HB.out))) : w.heap.size ≤ zD)); have n5_ := Aside0.mk ((by rw [hg]; exact Nat.ne_of_lt (zy (g := zC) (o := .cells #[.bool a0_0, .string a0_1, .string a0_2, .int .i64 a0_3, .int .i64 a0_4, .int .i64 a0_5, .int .i64 a0_6, .int .i64 a0_7] 55 (0, 0)) (by (with_reducible repeat (first | refine zh ?_ _ | refine zj ?_ | refine zg ?_ _)); exact zA.out)) : zC ≠ zD)); have n6_ := Aside0.mk ((by rw [hg]; exact Nat.ne_of_gt (zy (g := zC) (o := .cells #[.bool a0_0, .string a0_1, .string a0_2, .int .i64 a0_3, .int .i64 a0_4, .int .i64 a0_5, .int .i64 a0_6, .int .i64 a0_7] 55 (0, 0)) (by (with_reducible repeat (first | refine zh ?_ _ | refine zj ?_ | refine zg ?_ _)); exact zA.out)) : zD ≠ zC)); clear zA; clear HB; have zA := n0_; have HB := n1_; have zB := n2_; have GW201 := n3_; have zH := n4_; have zF := n5_; have zG := n6_; clear n0_ n1_ n2_ n3_ n4_ n5_ n6_; clear hb hbox hg; have zAc := zF.out; have zBc := zG.out; have zI : w12.cell? ⟨zC, 0, none⟩ = some (.bool a0_0) := (zi zA.out 0).trans rfl; have zJ : w12.cell? ⟨zC, 1, none⟩ = some (.string a0_1) := (zi zA.out 1).trans rfl; have zK : w12.cell? ⟨zC, 2, none⟩ = some (.string a0_2) := (zi zA.out 2).trans rfl; have zL : w12.cell? ⟨zC, 3, none⟩ = some (.int .i64 a0_3) := (zi zA.out 3).trans rfl; have zM : w12.cell? ⟨zC, 4, none⟩ = some (.int .i64 a0_4) := (zi zA.out 4).trans rfl; have zN : w12.cell? ⟨zC, 5, none⟩ = some (.int .i64 a0_5) := (zi zA.out 5).trans rfl; have zO : w12.cell? ⟨zC, 6, none⟩ = some (.int .i64 a0_6) := (zi zA.out 6).trans rfl; have zP : w12.cell? ⟨zC, 7, none⟩ = some (.int .i64 a0_7) := (zi zA.out 7).trans rfl; have zQ := zd zA.out 0; have zR := zd zA.out 1; have zS := zd zA.out 2; have zT := zd zA.out 3; have zU := zd zA.out 4; have zV := zd zA.out 5; have zW := zd zA.out 6; have zX := zd zA.out 7; have zY : w12.cell? ⟨zD, 0, none⟩ = some (.bool a1_0) := (zi zB.out 0).trans rfl; have zZ : w12.cell? ⟨zD, 1, none⟩ = some (.string a1_1) := (zi zB.out 1).trans rfl; have zab : w12.cell? ⟨zD, 2, none⟩ = some (.string a1_2) := (zi zB.out 2).trans rfl; have zbb : w12.cell? ⟨zD, 3, none⟩ = some (.int .i64 a1_3) := (zi zB.out 3).trans rfl; have zcb : w12.cell? ⟨zD, 4, none⟩ = some (.int .i64 a1_4) := (zi zB.out 4).trans rfl; have zdb : w12.cell? ⟨zD, 5, none⟩ = some (.int .i64 a1_5) := (zi zB.out 5).trans rfl; have zeb : w12.cell? ⟨zD, 6, none⟩ = some (.int .i64 a1_6) := (zi zB.out 6).trans rfl; have zfb : w12.cell? ⟨zD, 7, none⟩ = some (.int .i64 a1_7) := (zi zB.out 7).trans rfl; have zgb := zd zB.out 0; have zhb := zd zB.out 1; have zib := zd zB.out 2; have zjb := zd zB.out 3; have zkb := zd zB.out 4; have zlb := zd zB.out 5; have zmb := zd zB.out 6; have znb := zd zB.out 7) | ((with_reducible refine zn (f := 74) rfl ?_); refine zz (some 14) rfl rfl Tryd.func74 (by kernel_rfl) rfl #[.agg #[.string a0_1, .string a0_2, .int .i64 a0_3, .int .i64 a0_4, .int .i64 a0_5, .int .i64 a0_6, .int .i64 a0_7], .agg #[.string a1_1, .string a1_2, .int .i64 a1_3, .int .i64 a1_4, .int .i64 a1_5, .int .i64 a1_6, .int .i64 a1_7]] rfl (by (try simp only [List.map_toArray, List.map_cons, List.map_nil]); first | done | rfl | (simp only [List.length_drop, List.length_take]; rfl)) ?_; (with_reducible refine (laws_eqNode.calls a0_1 a0_2 a0_3 a0_4 a0_5 a0_6 a0_7 a1_1 a1_2 a1_3 a1_4 a1_5 a1_6 a1_7 true _ A9.out).mono ?_); rintro e w16 ⟨rfl, hb⟩; refine ⟨_, rfl, ?_⟩; have n0_ := Aside0.mk (zt (g := zC) (o := .cells #[.bool a0_0, .string a0_1, .string a0_2, .int .i64 a0_3, .int .i64 a0_4, .int .i64 a0_5, .int .i64 a0_6, .int .i64 a0_7] 55 (0, 0)) (by (with_reducible repeat (first | refine zh ?_ _ | refine zj ?_ | refine zg ?_ _)); exact zA.out) hb); have n1_ := Aside0.mk (zt (g := zD) (o := .cells #[.bool a1_0, .string a1_1, .string a1_2, .int .i64 a1_3, .int .i64 a1_4, .int .i64 a1_5, .int .i64 a1_6, .int .i64 a1_7] 55 (0, 0)) (by (with_reducible repeat (first | refine zh ?_ _ | refine zj ?_ | refine zg ?_ _)); exact zB.out) hb); have n2_ := Aside0.mk (zm (by repeat (first | (with_reducible first | exact HB.out | apply zf | apply zc | apply ze | refine zk ?_ zE.out | refine zk ?_ zH.out) | exact HB.out)) hb); clear zA; clear zB; clear HB; have zA := n0_; have zB := n1_; have HB := n2_; clear n0_ n1_ n2_; (try clear hb); (try clear hb2); (try clear hk); (try clear hi)))
   go_ret
   exact ⟨by first | rfl | (simp [errW_none, errW_some] <;> rfl) | (simp [*, errW_none, errW_some] <;> rfl), by repeat (first | (with_reducible first | exact HB.out | apply zf | apply zc | apply ze | refine zk ?_ zE.out | refine zk ?_ zH.out) | exact HB.out)⟩
  ·replace c10 := Bool.eq_false_iff.mpr c10
   subst c10
   have H1 : (some false) = some r := by rw [if_neg (show ¬ (false = true) by decide)] at H; exact H
   clear H
   have H := H1
   clear H1
   obtain rfl := Option.some.inj H
   go_enter Tryd.func76, Tryd.ntmps76
   go_wp2_with (first | ((with_reducible refine zw (N := 2) rfl ?_); refine zx ?hg (N := 2) ?hd (cs := #[.bool a0_0, .string a0_1, .string a0_2, .int .i64 a0_3, .int .i64 a0_4, .int .i64 a0_5, .int .i64 a0_6, .int .i64 a0_7]) (t := 55) ?hr ?_; (case hd => rfl); (case hg => rfl); (case hr => first | (go_simp; done) | (go_simp; rfl)); intro zC hg w17 hbox hb; have n0_ := Aside0.mk (zm (by repeat (first | (with_reducible first | exact HB.out | apply zf | apply zc | apply ze) | exact HB.out)) hb); have n1_ := Aside0.mk (hbox); have n2_ := Aside0.mk ((by rw [hg]; exact (zl (by repeat (first | (with_reducible first | exact HB.out | apply zf | apply zc | apply ze) | exact HB.out))) : w.heap.size ≤ zC)); have n3_ := Aside0.mk ((by rw [hg]; exact (zl (by repeat (first | (with_reducible first | exact HB.out | apply zf | apply zc | apply ze) | exact HB.out))) : w.heap.size ≤ zC)); clear HB; have HB := n0_; have zA := n1_; have GW200 := n2_; have zE := n3_; clear n0_ n1_ n2_ n3_; clear hb hbox hg) | ((with_reducible refine zw (N := 3) rfl ?_); refine zx ?hg (N := 3) ?hd (cs := #[.bool a1_0, .string a1_1, .string a1_2, .int .i64 a1_3, .int .i64 a1_4, .int .i64 a1_5, .int .i64 a1_6, .int .i64 a1_7]) (t := 55) ?hr ?_; (case hd => rfl); (case hg => rfl); (case hr => first | (go_simp; done) | (go_simp; rfl)); intro zD hg w18 hbox hb; have n0_ := Aside0.mk (zt (g := zC) (o := .cells #[.bool a0_0, .string a0_1, .string a0_2, .int .i64 a0_3, .int .i64 a0_4, .int .i64 a0_5, .int .i64 a0_6, .int .i64 a0_7] 55 (0, 0)) (by (with_reducible repeat (first | refine zh ?_ _ | refine zj ?_ | refine zg ?_ _)); exact zA.out) hb); have n1_ := Aside0.mk (zm (by repeat (first | (with_reducible first | exact HB.out | apply zf | apply zc | apply ze | refine zk ?_ zE.out) | exact HB.out)) hb); have n2_ := Aside0.mk (hbox); have n3_ := Aside0.mk ((by rw [hg]; exact (zl (by repeat (first | (with_reducible first | exact HB.out | apply zf | apply zc | apply ze | refine zk ?_ zE.out) | exact HB.out))) : w.heap.size ≤ zD)); have n4_ := Aside0.mk ((by rw [hg]; exact (zl (by repeat (first | (with_reducible first | exact HB.out | apply zf | apply zc | apply ze | refine zk ?_ zE.out) | exact HB.out))) : w.heap.size ≤ zD)); have n5_ := Aside0.mk ((by rw [hg]; exact Nat.ne_of_lt (zy (g := zC) (o := .cells #[.bool a0_0, .string a0_1, .string a0_2, .int .i64 a0_3, .int .i64 a0_4, .int .i64 a0_5, .int .i64 a0_6, .int .i64 a0_7] 55 (0, 0)) (by (with_reducible repeat (first | refine zh ?_ _ | refine zj ?_ | refine zg ?_ _)); exact zA.out)) : zC ≠ zD)); have n6_ := Aside0.mk ((by rw [hg]; exact Nat.ne_of_gt (zy (g := zC) (o := .cells #[.bool a0_0, .string a0_1, .string a0_2, .int .i64 a0_3, .int .i64 a0_4, .int .i64 a0_5, .int .i64 a0_6, .int .i64 a0_7] 55 (0, 0)) (by (with_reducible repeat (first | refine zh ?_ _ | refine zj ?_ | refine zg ?_ _)); exact zA.out)) : zD ≠ zC)); clear zA; clear HB; have zA := n0_; have HB := n1_; have zB := n2_; have GW201 := n3_; have zH := n4_; have zF := n5_; have zG := n6_; clear n0_ n1_ n2_ n3_ n4_ n5_ n6_; clear hb hbox hg; have zCc := zF.out; have zDc := zG.out; have zob : w18.cell? ⟨zC, 0, none⟩ = some (.bool a0_0) := (zi zA.out 0).trans rfl; have zpb : w18.cell? ⟨zC, 1, none⟩ = some (.string a0_1) := (zi zA.out 1).trans rfl; have zqb : w18.cell? ⟨zC, 2, none⟩ = some (.string a0_2) := (zi zA.out 2).trans rfl; have zrb : w18.cell? ⟨zC, 3, none⟩ = some (.int .i64 a0_3) := (zi zA.out 3).trans rfl; have zsb : w18.cell? ⟨zC, 4, none⟩ = some (.int .i64 a0_4) := (zi zA.out 4).trans rfl; have ztb : w18.cell? ⟨zC, 5, none⟩ = some (.int .i64 a0_5) := (zi zA.out 5).trans rfl; have zub : w18.cell? ⟨zC, 6, none⟩ = some (.int .i64 a0_6) := (zi zA.out 6).trans rfl; have zvb : w18.cell? ⟨zC, 7, none⟩ = some (.int .i64 a0_7) := (zi zA.out 7).trans rfl; have zwb := zd zA.out 0; have zxb := zd zA.out 1; have zyb := zd zA.out 2; have zzb := zd zA.out 3; have zAb := zd zA.out 4; have zBb := zd zA.out 5; have zCb := zd zA.out 6; have zDb := zd zA.out 7; have zEb : w18.cell? ⟨zD, 0, none⟩ = some (.bool a1_0) := (zi zB.out 0).trans rfl; have zFb : w18.cell? ⟨zD, 1, none⟩ = some (.string a1_1) := (zi zB.out 1).trans rfl; have zGb : w18.cell? ⟨zD, 2, none⟩ = some (.string a1_2) := (zi zB.out 2).trans rfl; have zHb : w18.cell? ⟨zD, 3, none⟩ = some (.int .i64 a1_3) := (zi zB.out 3).trans rfl; have zIb : w18.cell? ⟨zD, 4, none⟩ = some (.int .i64 a1_4) := (zi zB.out 4).trans rfl; have zJb : w18.cell? ⟨zD, 5, none⟩ = some (.int .i64 a1_5) := (zi zB.out 5).trans rfl; have zKb : w18.cell? ⟨zD, 6, none⟩ = some (.int .i64 a1_6) := (zi zB.out 6).trans rfl; have zLb : w18.cell? ⟨zD, 7, none⟩ = some (.int .i64 a1_7) := (zi zB.out 7).trans rfl; have zMb := zd zB.out 0; have zNb := zd zB.out 1; have zOb := zd zB.out 2; have zPb := zd zB.out 3; have zQb := zd zB.out 4; have zRb := zd zB.out 5; have zSb := zd zB.out 6; have zTb := zd zB.out 7) | ((with_reducible refine zn (f := 74) rfl ?_); refine zz (some 14) rfl rfl Tryd.func74 (by kernel_rfl) rfl #[.agg #[.string a0_1, .string a0_2, .int .i64 a0_3, .int .i64 a0_4, .int .i64 a0_5, .int .i64 a0_6, .int .i64 a0_7], .agg #[.string a1_1, .string a1_2, .int .i64 a1_3, .int .i64 a1_4, .int .i64 a1_5, .int .i64 a1_6, .int .i64 a1_7]] rfl (by (try simp only [List.map_toArray, List.map_cons, List.map_nil]); first | done | rfl | (simp only [List.length_drop, List.length_take]; rfl)) ?_; (with_reducible refine (laws_eqNode.calls a0_1 a0_2 a0_3 a0_4 a0_5 a0_6 a0_7 a1_1 a1_2 a1_3 a1_4 a1_5 a1_6 a1_7 false _ A9.out).mono ?_); rintro e w22 ⟨rfl, hb⟩; refine ⟨_, rfl, ?_⟩; have n0_ := Aside0.mk (zt (g := zC) (o := .cells #[.bool a0_0, .string a0_1, .string a0_2, .int .i64 a0_3, .int .i64 a0_4, .int .i64 a0_5, .int .i64 a0_6, .int .i64 a0_7] 55 (0, 0)) (by (with_reducible repeat (first | refine zh ?_ _ | refine zj ?_ | refine zg ?_ _)); exact zA.out) hb); have n1_ := Aside0.mk (zt (g := zD) (o := .cells #[.bool a1_0, .string a1_1, .string a1_2, .int .i64 a1_3, .int .i64 a1_4, .int .i64 a1_5, .int .i64 a1_6, .int .i64 a1_7] 55 (0, 0)) (by (with_reducible repeat (first | refine zh ?_ _ | refine zj ?_ | refine zg ?_ _)); exact zB.out) hb); have n2_ := Aside0.mk (zm (by repeat (first | (with_reducible first | exact HB.out | apply zf | apply zc | apply ze | refine zk ?_ zE.out | refine zk ?_ zH.out) | exact HB.out)) hb); clear zA; clear zB; clear HB; have zA := n0_; have zB := n1_; have HB := n2_; clear n0_ n1_ n2_; (try clear hb); (try clear hb2); (try clear hk); (try clear hi)))
   go_ret
   exact ⟨by first | rfl | (simp [errW_none, errW_some] <;> rfl) | (simp [*, errW_none, errW_some] <;> rfl), by repeat (first | (with_reducible first | exact HB.out | apply zf | apply zc | apply ze | refine zk ?_ zE.out | refine zk ?_ zH.out) | exact HB.out)⟩

def laws_eqEffectS.l0 : Nat → List (S55) → List (S55) → Int → Option (Bool)
 | 0, _, _, _ => none
 | k + 1, x0, x1, x5 => if x5 < (x0.length : Int) then (if 0 ≤ x5 then (if x5 < (x1.length : Int) then ((laws_eqEffect.f ((rd_T55 x0 x5).f0) ((rd_T55 x0 x5).f1.f0) ((rd_T55 x0 x5).f1.f1) ((rd_T55 x0 x5).f1.f2) ((rd_T55 x0 x5).f1.f3) ((rd_T55 x0 x5).f1.f4) ((rd_T55 x0 x5).f1.f5) ((rd_T55 x0 x5).f1.f6) ((rd_T55 x1 x5).f0) ((rd_T55 x1 x5).f1.f0) ((rd_T55 x1 x5).f1.f1) ((rd_T55 x1 x5).f1.f2) ((rd_T55 x1 x5).f1.f3) ((rd_T55 x1 x5).f1.f4) ((rd_T55 x1 x5).f1.f5) ((rd_T55 x1 x5).f1.f6)).bind fun t205 => (if t205 = true then (laws_eqEffectS.l0 k x0 x1 (wrap64 (x5 + 1))) else (some false))) else (none)) else (none)) else (some true)
def laws_eqEffectS.f (k : Nat) (l0 : List (S55)) (l1 : List (S55)) : Option (Bool) := if (l0.length : Int) = (l1.length : Int) then (laws_eqEffectS.l0 k l0 l1 0) else (some false)
theorem laws_eqEffectS.mono_l : ∀ k, (∀ y0 y1 y2, LeO (laws_eqEffectS.l0 k y0 y1 y2) (laws_eqEffectS.l0 (k + 1) y0 y1 y2))
 | 0 => fun _ _ _ r h => by simp [laws_eqEffectS.l0] at h
 | k + 1 => by
  have ih0 := laws_eqEffectS.mono_l k
  ·intro y0 y1 y2
   unfold laws_eqEffectS.l0
   repeat' first
   | (with_reducible exact ih0 _ _ _)
   | (with_reducible exact LeO.refl _)
   | (with_reducible exact LeO.none _)
   | (with_reducible refine LeO.ite ?_ ?_)
   | (with_reducible refine LeO.bind ?_ (fun _ => ?_))
   | exact ih0 _ _ _
   | exact LeO.none _
   | refine LeO.ite ?_ ?_
   | refine LeO.bind ?_ (fun _ => ?_)
theorem laws_eqEffectS.mono : ∀ a0 a1 k, LeO (laws_eqEffectS.f k a0 a1) (laws_eqEffectS.f (k + 1) a0 a1) := by
 intro a0 a1 k
 have ih0 := laws_eqEffectS.mono_l k
 unfold laws_eqEffectS.f
 repeat' first
   | (with_reducible exact ih0 _ _ _)
   | (with_reducible exact LeO.refl _)
   | (with_reducible exact LeO.none _)
   | (with_reducible refine LeO.ite ?_ ?_)
   | (with_reducible refine LeO.bind ?_ (fun _ => ?_))
   | exact ih0 _ _ _
   | exact LeO.none _
   | refine LeO.ite ?_ ?_
   | refine LeO.bind ?_ (fun _ => ?_)
def laws_eqEffectS.T6 : Bool × List (List Nat × List Nat) := (true, [([], []), ([], []), ([0, 1], [0, 1]), ([2], [2]), ([], []), ([], []), ([4, 5], [4, 5]), ([6], [6]), ([3, 7], [3, 7]), ([8], [8])])
def laws_eqEffectS.B6 : List Nat := [0, 0, 3, 7, 0, 0, 48, 112, 255, 511]
theorem laws_eqEffectS.tab6 : rtab .any (opsOf Tryd.f57 6) = laws_eqEffectS.T6 := by kernel_rfl
theorem laws_eqEffectS.bits6 : waitsOk laws_eqEffectS.T6.2 laws_eqEffectS.B6 = true := by kernel_rfl
set_option maxHeartbeats 8000000 in
set_option maxRecDepth 100000 in
theorem laws_eqEffectS.calls (k : Nat) (A0 : Option Addr) (c0 : Nat) (l0 : List (S55)) (A1 : Option Addr) (c1 : Nat) (l1 : List (S55)) (r : Bool) (w : World) (hr0 : Kd.C k55 w A0 l0.length l0) (hc0 : l0.length ≤ c0) (hr1 : Kd.C k55 w A1 l1.length l1) (hc1 : l1.length ≤ c1) (h : laws_eqEffectS.f k l0 l1 = some r) :
  Calls Tryd.prog 57 #[.slice A0 l0.length c0, .slice A1 l1.length c1] w fun e w' => e = .returned (.bool r) ∧ Below w.heap.size w w' := by
 have hu55 := Tryd.underlying55
 have HR0 := Aside0.mk hr0
 have HC0 := Aside0.mk hc0
 clear hr0 hc0
 have HR1 := Aside0.mk hr1
 have HC1 := Aside0.mk hc1
 clear hr1 hc1
 have HB := Aside0.mk (Below.refl w.heap.size w)
 have H : (if (l0.length : Int) = (l1.length : Int) then (laws_eqEffectS.l0 k l0 l1 0) else (some false)) = some r := h
 clear h
 by_cases c3 : (l0.length : Int) = (l1.length : Int)
 ·rw [if_pos c3] at H
  have c3b0 : ((l0.length : Int) == (l1.length : Int)) = true := beq_iff_eq.mpr c3
  have c3b1 : ((l0.length : Int) != (l1.length : Int)) = false := bne_eq_false_iff_eq.mpr c3
  have c3b2 : (l0.length == l1.length) = true := by first | simpa using c3 | (simp at c3 ⊢; omega)
  clear c3
  have H' := Aside0.mk H
  clear H
  go_enter Tryd.func57, Tryd.ntmps57
  go_wp2
  go_loopg [5] k (fun kq v5 w' => ∃ (x5_1 : Int), v5 = .int .i64 x5_1 ∧ Aside0 (laws_eqEffectS.l0 kq l0 l1 x5_1 = some r) ∧ Aside0 (kq ≤ k) ∧ Aside0 (Below w.heap.size w w'))
  case atStart => exact ⟨(0), (by first | rfl | (simp; done) | (simp [*]; done)), H', ⟨Nat.le_refl _⟩, ⟨by repeat (first | (with_reducible first | exact HB.out | apply zf | apply zc | apply ze) | exact HB.out)⟩⟩
  case round =>
   clear H'
   try clear c1
   try clear p2
   try clear c3
   try clear c3b0
   try clear c3b1
   try clear c3b2
   obtain ⟨x5_1, rfl, HA, HK1, HB⟩ := hrel
   cases gk with
   | zero => exact absurd HA.out (by simp [laws_eqEffectS.l0])
   | succ k1 =>
    have H := HA.out
    clear HA
    simp only [laws_eqEffectS.l0] at H
    by_cases c4 : x5_1 < (l0.length : Int)
    ·rw [if_pos c4] at H
     have c4b0 : decide (x5_1 < (l0.length : Int)) = true := decide_eq_true c4
     clear c4
     by_cases c5 : 0 ≤ x5_1
     ·rw [if_pos c5] at H
      have c5b0 : decide (0 ≤ x5_1) = true := decide_eq_true c5
      clear c5
      by_cases c6 : x5_1 < (l1.length : Int)
      ·rw [if_pos c6] at H
       have c6b0 : decide (x5_1 < (l1.length : Int)) = true := decide_eq_true c6
       clear c6
       replace H := Option.bind_eq_some_iff.mp H
       obtain ⟨t205, A70, H⟩ := H
       replace H : (if t205 = true then (laws_eqEffectS.l0 k1 l0 l1 (wrap64 (x5_1 + 1))) else (some false)) = some r := H
       have A7 := Aside0.mk A70
       clear A70
       by_cases c8 : t205 = true
       ·subst c8
        have H1 : (laws_eqEffectS.l0 k1 l0 l1 (wrap64 (x5_1 + 1))) = some r := by rw [if_pos rfl] at H; exact H
        clear H
        have H := H1
        clear H1
        have H' := Aside0.mk H
        clear H
        try go_wp2
        have n0_ := Aside0.mk (ze HB.out)
        clear HB
        have HB := n0_
        clear n0_
        have p203 : 0 ≤ (x5_1 : Int) := of_decide_eq_true (by first | (with_reducible assumption) | assumption)
        have q203 : x5_1 < (l0.length : Int) := of_decide_eq_true (by first | (with_reducible assumption) | assumption)
        obtain ⟨ad203, e203, hx203_0, hx203_1, hx203_2, hx203_3, hx203_4, hx203_5, hx203_6, hx203_7⟩ := at_T55 HR0.out x5_1 p203 q203
        have hw203_7 := hx203_7
        have hw203_6 := hx203_6
        have hw203_5 := hx203_5
        have hw203_4 := hx203_4
        have hw203_3 := hx203_3
        have hw203_2 := hx203_2
        have hw203_1 := hx203_1
        have hw203_0 := hx203_0
        cases e203
        replace hx203_0 := zb HB.out hx203_0
        replace hx203_1 := zb HB.out hx203_1
        replace hx203_2 := zb HB.out hx203_2
        replace hx203_3 := zb HB.out hx203_3
        replace hx203_4 := zb HB.out hx203_4
        replace hx203_5 := zb HB.out hx203_5
        replace hx203_6 := zb HB.out hx203_6
        replace hx203_7 := zb HB.out hx203_7
        replace p203 := eq_true p203
        replace q203 := eq_true q203
        have p204 : 0 ≤ (x5_1 : Int) := of_decide_eq_true (by first | (with_reducible assumption) | assumption)
        have q204 : x5_1 < (l1.length : Int) := of_decide_eq_true (by first | (with_reducible assumption) | assumption)
        obtain ⟨ad204, e204, hx204_0, hx204_1, hx204_2, hx204_3, hx204_4, hx204_5, hx204_6, hx204_7⟩ := at_T55 HR1.out x5_1 p204 q204
        have hw204_7 := hx204_7
        have hw204_6 := hx204_6
        have hw204_5 := hx204_5
        have hw204_4 := hx204_4
        have hw204_3 := hx204_3
        have hw204_2 := hx204_2
        have hw204_1 := hx204_1
        have hw204_0 := hx204_0
        cases e204
        replace hx204_0 := zb HB.out hx204_0
        replace hx204_1 := zb HB.out hx204_1
        replace hx204_2 := zb HB.out hx204_2
        replace hx204_3 := zb HB.out hx204_3
        replace hx204_4 := zb HB.out hx204_4
        replace hx204_5 := zb HB.out hx204_5
        replace hx204_6 := zb HB.out hx204_6
        replace hx204_7 := zb HB.out hx204_7
        replace p204 := eq_true p204
        replace q204 := eq_true q204
        refine start_ (n := 10) (S := fun w' => w'.cell? (ad203.add ((x5_1).toNat * 8)) = some (.bool ((rd_T55 l0 x5_1).f0)) ∧ w'.cell? ⟨(ad203.add ((x5_1).toNat * 8)).block, (ad203.add ((x5_1).toNat * 8)).off + 1, none⟩ = some (.string ((rd_T55 l0 x5_1).f1.f0)) ∧ w'.cell? ⟨(ad203.add ((x5_1).toNat * 8)).block, (ad203.add ((x5_1).toNat * 8)).off + 2, none⟩ = some (.string ((rd_T55 l0 x5_1).f1.f1)) ∧ w'.cell? ⟨(ad203.add ((x5_1).toNat * 8)).block, (ad203.add ((x5_1).toNat * 8)).off + 3, none⟩ = some (.int .i64 ((rd_T55 l0 x5_1).f1.f2)) ∧ w'.cell? ⟨(ad203.add ((x5_1).toNat * 8)).block, (ad203.add ((x5_1).toNat * 8)).off + 4, none⟩ = some (.int .i64 ((rd_T55 l0 x5_1).f1.f3)) ∧ w'.cell? ⟨(ad203.add ((x5_1).toNat * 8)).block, (ad203.add ((x5_1).toNat * 8)).off + 5, none⟩ = some (.int .i64 ((rd_T55 l0 x5_1).f1.f4)) ∧ w'.cell? ⟨(ad203.add ((x5_1).toNat * 8)).block, (ad203.add ((x5_1).toNat * 8)).off + 6, none⟩ = some (.int .i64 ((rd_T55 l0 x5_1).f1.f5)) ∧ w'.cell? ⟨(ad203.add ((x5_1).toNat * 8)).block, (ad203.add ((x5_1).toNat * 8)).off + 7, none⟩ = some (.int .i64 ((rd_T55 l0 x5_1).f1.f6)) ∧ w'.cell? (ad204.add ((x5_1).toNat * 8)) = some (.bool ((rd_T55 l1 x5_1).f0)) ∧ w'.cell? ⟨(ad204.add ((x5_1).toNat * 8)).block, (ad204.add ((x5_1).toNat * 8)).off + 1, none⟩ = some (.string ((rd_T55 l1 x5_1).f1.f0)) ∧ w'.cell? ⟨(ad204.add ((x5_1).toNat * 8)).block, (ad204.add ((x5_1).toNat * 8)).off + 2, none⟩ = some (.string ((rd_T55 l1 x5_1).f1.f1)) ∧ w'.cell? ⟨(ad204.add ((x5_1).toNat * 8)).block, (ad204.add ((x5_1).toNat * 8)).off + 3, none⟩ = some (.int .i64 ((rd_T55 l1 x5_1).f1.f2)) ∧ w'.cell? ⟨(ad204.add ((x5_1).toNat * 8)).block, (ad204.add ((x5_1).toNat * 8)).off + 4, none⟩ = some (.int .i64 ((rd_T55 l1 x5_1).f1.f3)) ∧ w'.cell? ⟨(ad204.add ((x5_1).toNat * 8)).block, (ad204.add ((x5_1).toNat * 8)).off + 5, none⟩ = some (.int .i64 ((rd_T55 l1 x5_1).f1.f4)) ∧ w'.cell? ⟨(ad204.add ((x5_1).toNat * 8)).block, (ad204.add ((x5_1).toNat * 8)).off + 6, none⟩ = some (.int .i64 ((rd_T55 l1 x5_1).f1.f5)) ∧ w'.cell? ⟨(ad204.add ((x5_1).toNat * 8)).block, (ad204.add ((x5_1).toNat * 8)).off + 7, none⟩ = some (.int .i64 ((rd_T55 l1 x5_1).f1.f6))) (ds := []) #[false, false, false, false, false, false, false, false, false, false] (by kernel_rfl) rfl rfl ⟨(zb HB.out hw203_0), (zb HB.out hw203_1), (zb HB.out hw203_2), (zb HB.out hw203_3), (zb HB.out hw203_4), (zb HB.out hw203_5), (zb HB.out hw203_6), (zb HB.out hw203_7), (zb HB.out hw204_0), (zb HB.out hw204_1), (zb HB.out hw204_2), (zb HB.out hw204_3), (zb HB.out hw204_4), (zb HB.out hw204_5), (zb HB.out hw204_6), (zb HB.out hw204_7)⟩ (fun hHeld => ?_); refine with_tabW laws_eqEffectS.tab6 laws_eqEffectS.bits6 (fun HT_ HW_ => ?_)
        generalize wr.drew = w9 at HB hx203_0 hx203_1 hx203_2 hx203_3 hx203_4 hx203_5 hx203_6 hx203_7 hx204_0 hx204_1 hx204_2 hx204_3 hx204_4 hx204_5 hx204_6 hx204_7 hHeld ⊢
        refine zv (i := 0) (N := some 17) (v := ?_) (a' := ?_) #[true, false, false, false, false, false, false, false, false, false] rfl rfl (zu HT_.out (by kernel_rfl)) (fun _ _ _ h => h) (Or.inl ⟨by rfl, ?_⟩) ?_ ?_
        rotate_left
        ·intro w'
         go_simp
         with_reducible rfl
        rotate_left
        ·simp only [Act.put, List.setIfInBounds_toArray, List.set_cons_zero, List.set_cons_succ, zp, zr]
         rfl
        refine zv (i := 1) (N := some 18) (v := ?_) (a' := ?_) #[true, true, false, false, false, false, false, false, false, false] rfl rfl (zu HT_.out (by kernel_rfl)) (fun _ _ _ h => h) (Or.inl ⟨by rfl, ?_⟩) ?_ ?_
        rotate_left
        ·intro w'
         go_simp
         with_reducible rfl
        rotate_left
        ·simp only [Act.put, List.setIfInBounds_toArray, List.set_cons_zero, List.set_cons_succ, zp, zr]
         rfl
        refine zv (i := 2) (N := some 19) (v := ?_) (a' := ?_) #[true, true, true, false, false, false, false, false, false, false] rfl rfl (zu HT_.out (by kernel_rfl)) (fun _ _ _ h => h) (Or.inl ⟨by rfl, ?_⟩) ?_ ?_
        rotate_left
        ·intro w'
         go_simp
         with_reducible rfl
        rotate_left
        ·simp only [Act.put, List.setIfInBounds_toArray, List.set_cons_zero, List.set_cons_succ, zp, zr]
         rfl
        refine zv (i := 4) (N := some 21) (v := ?_) (a' := ?_) #[true, true, true, false, true, false, false, false, false, false] rfl rfl (zu HT_.out (by kernel_rfl)) (fun _ _ _ h => h) (Or.inl ⟨by rfl, ?_⟩) ?_ ?_
        rotate_left
        ·intro w'
         go_simp
         with_reducible rfl
        rotate_left
        ·simp only [Act.put, List.setIfInBounds_toArray, List.set_cons_zero, List.set_cons_succ, zp, zr]
         rfl
        refine zv (i := 5) (N := some 22) (v := ?_) (a' := ?_) #[true, true, true, false, true, true, false, false, false, false] rfl rfl (zu HT_.out (by kernel_rfl)) (fun _ _ _ h => h) (Or.inl ⟨by rfl, ?_⟩) ?_ ?_
        rotate_left
        ·intro w'
         go_simp
         with_reducible rfl
        rotate_left
        ·simp only [Act.put, List.setIfInBounds_toArray, List.set_cons_zero, List.set_cons_succ, zp, zr]
         rfl
        refine zv (i := 6) (N := some 23) (v := ?_) (a' := ?_) #[true, true, true, false, true, true, true, false, false, false] rfl rfl (zu HT_.out (by kernel_rfl)) (fun _ _ _ h => h) (Or.inl ⟨by rfl, ?_⟩) ?_ ?_
        rotate_left
        ·intro w'
         go_simp
         with_reducible rfl
        rotate_left
        ·simp only [Act.put, List.setIfInBounds_toArray, List.set_cons_zero, List.set_cons_succ, zp, zr]
         rfl
        refine take_ (i := 3) (N := some 20) (v := ?_) (a' := ?_) #[true, true, true, true, true, true, true, false, false, false] rfl rfl (take_ofW HT_.out HW_.out (by kernel_rfl)) (fun _ _ _ h => h) (Or.inl ⟨by rfl, ?_⟩) hHeld ?_ ?_
        rotate_left
        ·rintro w' ⟨s0, s1, s2, s3, s4, s5, s6, s7, s8, s9, s10, s11, s12, s13, s14, s15⟩
         go_simp
         with_reducible rfl
        rotate_left
        ·simp only [Act.put, List.setIfInBounds_toArray, List.set_cons_zero, List.set_cons_succ, zp, zr]
         rfl
        refine take_ (i := 7) (N := some 24) (v := ?_) (a' := ?_) #[true, true, true, true, true, true, true, true, false, false] rfl rfl (take_ofW HT_.out HW_.out (by kernel_rfl)) (fun _ _ _ h => h) (Or.inl ⟨by rfl, ?_⟩) hHeld ?_ ?_
        rotate_left
        ·rintro w' ⟨s0, s1, s2, s3, s4, s5, s6, s7, s8, s9, s10, s11, s12, s13, s14, s15⟩
         go_simp
         with_reducible rfl
        rotate_left
        ·simp only [Act.put, List.setIfInBounds_toArray, List.set_cons_zero, List.set_cons_succ, zp, zr]
         rfl
        refine one_ (i := 8) (N := some 25) #[true, true, true, true, true, true, true, true, true, false] rfl rfl (one_of HT_.out (by kernel_rfl)) (by decide) (fun K hK => ?_)
        refine goes_ Tryd.func76 (by kernel_rfl) rfl #[.agg #[.bool ((rd_T55 l0 x5_1).f0), .string ((rd_T55 l0 x5_1).f1.f0), .string ((rd_T55 l0 x5_1).f1.f1), .int .i64 ((rd_T55 l0 x5_1).f1.f2), .int .i64 ((rd_T55 l0 x5_1).f1.f3), .int .i64 ((rd_T55 l0 x5_1).f1.f4), .int .i64 ((rd_T55 l0 x5_1).f1.f5), .int .i64 ((rd_T55 l0 x5_1).f1.f6)], .agg #[.bool ((rd_T55 l1 x5_1).f0), .string ((rd_T55 l1 x5_1).f1.f0), .string ((rd_T55 l1 x5_1).f1.f1), .int .i64 ((rd_T55 l1 x5_1).f1.f2), .int .i64 ((rd_T55 l1 x5_1).f1.f3), .int .i64 ((rd_T55 l1 x5_1).f1.f4), .int .i64 ((rd_T55 l1 x5_1).f1.f5), .int .i64 ((rd_T55 l1 x5_1).f1.f6)]] (by rfl) rfl rfl (by (try simp only [List.map_toArray, List.map_cons, List.map_nil]); first | done | rfl | (simp only [List.length_drop, List.length_take]; rfl)) ?_
        with_reducible refine (laws_eqEffect.calls ((rd_T55 l0 x5_1).f0) ((rd_T55 l0 x5_1).f1.f0) ((rd_T55 l0 x5_1).f1.f1) ((rd_T55 l0 x5_1).f1.f2) ((rd_T55 l0 x5_1).f1.f3) ((rd_T55 l0 x5_1).f1.f4) ((rd_T55 l0 x5_1).f1.f5) ((rd_T55 l0 x5_1).f1.f6) ((rd_T55 l1 x5_1).f0) ((rd_T55 l1 x5_1).f1.f0) ((rd_T55 l1 x5_1).f1.f1) ((rd_T55 l1 x5_1).f1.f2) ((rd_T55 l1 x5_1).f1.f3) ((rd_T55 l1 x5_1).f1.f4) ((rd_T55 l1 x5_1).f1.f5) ((rd_T55 l1 x5_1).f1.f6) true _ A7.out).mono ?_
        rintro e w10 ⟨rfl, hb⟩
        refine ⟨_, rfl, ?_⟩
        have n0_ := Aside0.mk (zm (by repeat (first | (with_reducible first | exact HB.out | apply zf | apply zc | apply ze) | exact HB.out)) hb)
        clear HB
        have HB := n0_
        clear n0_
        (try clear hb)
        (try clear hb2)
        (try clear hk)
        (try clear hi)
        refine hK.out _ _ ⟨(zb HB.out hw203_0), (zb HB.out hw203_1), (zb HB.out hw203_2), (zb HB.out hw203_3), (zb HB.out hw203_4), (zb HB.out hw203_5), (zb HB.out hw203_6), (zb HB.out hw203_7), (zb HB.out hw204_0), (zb HB.out hw204_1), (zb HB.out hw204_2), (zb HB.out hw204_3), (zb HB.out hw204_4), (zb HB.out hw204_5), (zb HB.out hw204_6), (zb HB.out hw204_7)⟩ (fun hHeld => ?_)
        clear hK K
        refine norm_ (a' := ?_) ?_ ?_
        rotate_left
        ·show Act.put _ (some 25) _ = _
         simp only [Act.put, List.setIfInBounds_toArray, List.set_cons_zero, List.set_cons_succ, zp, zr]
         rfl
        refine zv (i := 9) (N := some 26) (v := ?_) (a' := ?_) #[true, true, true, true, true, true, true, true, true, true] rfl rfl (zu HT_.out (by kernel_rfl)) (fun _ _ _ h => h) (Or.inl ⟨by rfl, ?_⟩) ?_ ?_
        rotate_left
        ·intro w'
         go_simp
         with_reducible rfl
        rotate_left
        ·simp only [Act.put, List.setIfInBounds_toArray, List.set_cons_zero, List.set_cons_succ, zp, zr]
         rfl
        refine done_ (done_of HT_.out (by kernel_rfl)) ?_
        try go_wp2
        go_roundg k1
        case measure => have := HK1.out; omega
        case rel => exact ⟨(wrap64 (x5_1 + 1)), (by first | rfl | (simp; done) | (simp [*]; done)), H', ⟨by have := HK1.out; omega⟩, ⟨by repeat (first | (with_reducible first | exact HB.out | apply zf | apply zc | apply ze) | exact HB.out)⟩⟩
       ·replace c8 := Bool.eq_false_iff.mpr c8
        subst c8
        have H1 : (some false) = some r := by rw [if_neg (show ¬ (false = true) by decide)] at H; exact H
        clear H
        have H := H1
        clear H1
        obtain rfl := Option.some.inj H
        try go_wp2
        have n0_ := Aside0.mk (ze HB.out)
        clear HB
        have HB := n0_
        clear n0_
        have p203 : 0 ≤ (x5_1 : Int) := of_decide_eq_true (by first | (with_reducible assumption) | assumption)
        have q203 : x5_1 < (l0.length : Int) := of_decide_eq_true (by first | (with_reducible assumption) | assumption)
        obtain ⟨ad203, e203, hx203_0, hx203_1, hx203_2, hx203_3, hx203_4, hx203_5, hx203_6, hx203_7⟩ := at_T55 HR0.out x5_1 p203 q203
        have hw203_7 := hx203_7
        have hw203_6 := hx203_6
        have hw203_5 := hx203_5
        have hw203_4 := hx203_4
        have hw203_3 := hx203_3
        have hw203_2 := hx203_2
        have hw203_1 := hx203_1
        have hw203_0 := hx203_0
        cases e203
        replace hx203_0 := zb HB.out hx203_0
        replace hx203_1 := zb HB.out hx203_1
        replace hx203_2 := zb HB.out hx203_2
        replace hx203_3 := zb HB.out hx203_3
        replace hx203_4 := zb HB.out hx203_4
        replace hx203_5 := zb HB.out hx203_5
        replace hx203_6 := zb HB.out hx203_6
        replace hx203_7 := zb HB.out hx203_7
        replace p203 := eq_true p203
        replace q203 := eq_true q203
        have p204 : 0 ≤ (x5_1 : Int) := of_decide_eq_true (by first | (with_reducible assumption) | assumption)
        have q204 : x5_1 < (l1.length : Int) := of_decide_eq_true (by first | (with_reducible assumption) | assumption)
        obtain ⟨ad204, e204, hx204_0, hx204_1, hx204_2, hx204_3, hx204_4, hx204_5, hx204_6, hx204_7⟩ := at_T55 HR1.out x5_1 p204 q204
        have hw204_7 := hx204_7
        have hw204_6 := hx204_6
        have hw204_5 := hx204_5
        have hw204_4 := hx204_4
        have hw204_3 := hx204_3
        have hw204_2 := hx204_2
        have hw204_1 := hx204_1
        have hw204_0 := hx204_0
        cases e204
        replace hx204_0 := zb HB.out hx204_0
        replace hx204_1 := zb HB.out hx204_1
        replace hx204_2 := zb HB.out hx204_2
        replace hx204_3 := zb HB.out hx204_3
        replace hx204_4 := zb HB.out hx204_4
        replace hx204_5 := zb HB.out hx204_5
        replace hx204_6 := zb HB.out hx204_6
        replace hx204_7 := zb HB.out hx204_7
        replace p204 := eq_true p204
        replace q204 := eq_true q204
        refine start_ (n := 10) (S := fun w' => w'.cell? (ad203.add ((x5_1).toNat * 8)) = some (.bool ((rd_T55 l0 x5_1).f0)) ∧ w'.cell? ⟨(ad203.add ((x5_1).toNat * 8)).block, (ad203.add ((x5_1).toNat * 8)).off + 1, none⟩ = some (.string ((rd_T55 l0 x5_1).f1.f0)) ∧ w'.cell? ⟨(ad203.add ((x5_1).toNat * 8)).block, (ad203.add ((x5_1).toNat * 8)).off + 2, none⟩ = some (.string ((rd_T55 l0 x5_1).f1.f1)) ∧ w'.cell? ⟨(ad203.add ((x5_1).toNat * 8)).block, (ad203.add ((x5_1).toNat * 8)).off + 3, none⟩ = some (.int .i64 ((rd_T55 l0 x5_1).f1.f2)) ∧ w'.cell? ⟨(ad203.add ((x5_1).toNat * 8)).block, (ad203.add ((x5_1).toNat * 8)).off + 4, none⟩ = some (.int .i64 ((rd_T55 l0 x5_1).f1.f3)) ∧ w'.cell? ⟨(ad203.add ((x5_1).toNat * 8)).block, (ad203.add ((x5_1).toNat * 8)).off + 5, none⟩ = some (.int .i64 ((rd_T55 l0 x5_1).f1.f4)) ∧ w'.cell? ⟨(ad203.add ((x5_1).toNat * 8)).block, (ad203.add ((x5_1).toNat * 8)).off + 6, none⟩ = some (.int .i64 ((rd_T55 l0 x5_1).f1.f5)) ∧ w'.cell? ⟨(ad203.add ((x5_1).toNat * 8)).block, (ad203.add ((x5_1).toNat * 8)).off + 7, none⟩ = some (.int .i64 ((rd_T55 l0 x5_1).f1.f6)) ∧ w'.cell? (ad204.add ((x5_1).toNat * 8)) = some (.bool ((rd_T55 l1 x5_1).f0)) ∧ w'.cell? ⟨(ad204.add ((x5_1).toNat * 8)).block, (ad204.add ((x5_1).toNat * 8)).off + 1, none⟩ = some (.string ((rd_T55 l1 x5_1).f1.f0)) ∧ w'.cell? ⟨(ad204.add ((x5_1).toNat * 8)).block, (ad204.add ((x5_1).toNat * 8)).off + 2, none⟩ = some (.string ((rd_T55 l1 x5_1).f1.f1)) ∧ w'.cell? ⟨(ad204.add ((x5_1).toNat * 8)).block, (ad204.add ((x5_1).toNat * 8)).off + 3, none⟩ = some (.int .i64 ((rd_T55 l1 x5_1).f1.f2)) ∧ w'.cell? ⟨(ad204.add ((x5_1).toNat * 8)).block, (ad204.add ((x5_1).toNat * 8)).off + 4, none⟩ = some (.int .i64 ((rd_T55 l1 x5_1).f1.f3)) ∧ w'.cell? ⟨(ad204.add ((x5_1).toNat * 8)).block, (ad204.add ((x5_1).toNat * 8)).off + 5, none⟩ = some (.int .i64 ((rd_T55 l1 x5_1).f1.f4)) ∧ w'.cell? ⟨(ad204.add ((x5_1).toNat * 8)).block, (ad204.add ((x5_1).toNat * 8)).off + 6, none⟩ = some (.int .i64 ((rd_T55 l1 x5_1).f1.f5)) ∧ w'.cell? ⟨(ad204.add ((x5_1).toNat * 8)).block, (ad204.add ((x5_1).toNat * 8)).off + 7, none⟩ = some (.int .i64 ((rd_T55 l1 x5_1).f1.f6))) (ds := []) #[false, false, false, false, false, false, false, false, false, false] (by kernel_rfl) rfl rfl ⟨(zb HB.out hw203_0), (zb HB.out hw203_1), (zb HB.out hw203_2), (zb HB.out hw203_3), (zb HB.out hw203_4), (zb HB.out hw203_5), (zb HB.out hw203_6), (zb HB.out hw203_7), (zb HB.out hw204_0), (zb HB.out hw204_1), (zb HB.out hw204_2), (zb HB.out hw204_3), (zb HB.out hw204_4), (zb HB.out hw204_5), (zb HB.out hw204_6), (zb HB.out hw204_7)⟩ (fun hHeld => ?_); refine with_tabW laws_eqEffectS.tab6 laws_eqEffectS.bits6 (fun HT_ HW_ => ?_)
        generalize wr.drew = w11 at HB hx203_0 hx203_1 hx203_2 hx203_3 hx203_4 hx203_5 hx203_6 hx203_7 hx204_0 hx204_1 hx204_2 hx204_3 hx204_4 hx204_5 hx204_6 hx204_7 hHeld ⊢
        refine zv (i := 0) (N := some 17) (v := ?_) (a' := ?_) #[true, false, false, false, false, false, false, false, false, false] rfl rfl (zu HT_.out (by kernel_rfl)) (fun _ _ _ h => h) (Or.inl ⟨by rfl, ?_⟩) ?_ ?_
        rotate_left
        ·intro w'
         go_simp
         with_reducible rfl
        rotate_left
        ·simp only [Act.put, List.setIfInBounds_toArray, List.set_cons_zero, List.set_cons_succ, zp, zr]
         rfl
        refine zv (i := 1) (N := some 18) (v := ?_) (a' := ?_) #[true, true, false, false, false, false, false, false, false, false] rfl rfl (zu HT_.out (by kernel_rfl)) (fun _ _ _ h => h) (Or.inl ⟨by rfl, ?_⟩) ?_ ?_
        rotate_left
        ·intro w'
         go_simp
         with_reducible rfl
        rotate_left
        ·simp only [Act.put, List.setIfInBounds_toArray, List.set_cons_zero, List.set_cons_succ, zp, zr]
         rfl
        refine zv (i := 2) (N := some 19) (v := ?_) (a' := ?_) #[true, true, true, false, false, false, false, false, false, false] rfl rfl (zu HT_.out (by kernel_rfl)) (fun _ _ _ h => h) (Or.inl ⟨by rfl, ?_⟩) ?_ ?_
        rotate_left
        ·intro w'
         go_simp
         with_reducible rfl
        rotate_left
        ·simp only [Act.put, List.setIfInBounds_toArray, List.set_cons_zero, List.set_cons_succ, zp, zr]
         rfl
        refine zv (i := 4) (N := some 21) (v := ?_) (a' := ?_) #[true, true, true, false, true, false, false, false, false, false] rfl rfl (zu HT_.out (by kernel_rfl)) (fun _ _ _ h => h) (Or.inl ⟨by rfl, ?_⟩) ?_ ?_
        rotate_left
        ·intro w'
         go_simp
         with_reducible rfl
        rotate_left
        ·simp only [Act.put, List.setIfInBounds_toArray, List.set_cons_zero, List.set_cons_succ, zp, zr]
         rfl
        refine zv (i := 5) (N := some 22) (v := ?_) (a' := ?_) #[true, true, true, false, true, true, false, false, false, false] rfl rfl (zu HT_.out (by kernel_rfl)) (fun _ _ _ h => h) (Or.inl ⟨by rfl, ?_⟩) ?_ ?_
        rotate_left
        ·intro w'
         go_simp
         with_reducible rfl
        rotate_left
        ·simp only [Act.put, List.setIfInBounds_toArray, List.set_cons_zero, List.set_cons_succ, zp, zr]
         rfl
        refine zv (i := 6) (N := some 23) (v := ?_) (a' := ?_) #[true, true, true, false, true, true, true, false, false, false] rfl rfl (zu HT_.out (by kernel_rfl)) (fun _ _ _ h => h) (Or.inl ⟨by rfl, ?_⟩) ?_ ?_
        rotate_left
        ·intro w'
         go_simp
         with_reducible rfl
        rotate_left
        ·simp only [Act.put, List.setIfInBounds_toArray, List.set_cons_zero, List.set_cons_succ, zp, zr]
         rfl
        refine take_ (i := 3) (N := some 20) (v := ?_) (a' := ?_) #[true, true, true, true, true, true, true, false, false, false] rfl rfl (take_ofW HT_.out HW_.out (by kernel_rfl)) (fun _ _ _ h => h) (Or.inl ⟨by rfl, ?_⟩) hHeld ?_ ?_
        rotate_left
        ·rintro w' ⟨s0, s1, s2, s3, s4, s5, s6, s7, s8, s9, s10, s11, s12, s13, s14, s15⟩
         go_simp
         with_reducible rfl
        rotate_left
        ·simp only [Act.put, List.setIfInBounds_toArray, List.set_cons_zero, List.set_cons_succ, zp, zr]
         rfl
        refine take_ (i := 7) (N := some 24) (v := ?_) (a' := ?_) #[true, true, true, true, true, true, true, true, false, false] rfl rfl (take_ofW HT_.out HW_.out (by kernel_rfl)) (fun _ _ _ h => h) (Or.inl ⟨by rfl, ?_⟩) hHeld ?_ ?_
        rotate_left
        ·rintro w' ⟨s0, s1, s2, s3, s4, s5, s6, s7, s8, s9, s10, s11, s12, s13, s14, s15⟩
         go_simp
         with_reducible rfl
        rotate_left
        ·simp only [Act.put, List.setIfInBounds_toArray, List.set_cons_zero, List.set_cons_succ, zp, zr]
         rfl
        refine one_ (i := 8) (N := some 25) #[true, true, true, true, true, true, true, true, true, false] rfl rfl (one_of HT_.out (by kernel_rfl)) (by decide) (fun K hK => ?_)
        refine goes_ Tryd.func76 (by kernel_rfl) rfl #[.agg #[.bool ((rd_T55 l0 x5_1).f0), .string ((rd_T55 l0 x5_1).f1.f0), .string ((rd_T55 l0 x5_1).f1.f1), .int .i64 ((rd_T55 l0 x5_1).f1.f2), .int .i64 ((rd_T55 l0 x5_1).f1.f3), .int .i64 ((rd_T55 l0 x5_1).f1.f4), .int .i64 ((rd_T55 l0 x5_1).f1.f5), .int .i64 ((rd_T55 l0 x5_1).f1.f6)], .agg #[.bool ((rd_T55 l1 x5_1).f0), .string ((rd_T55 l1 x5_1).f1.f0), .string ((rd_T55 l1 x5_1).f1.f1), .int .i64 ((rd_T55 l1 x5_1).f1.f2), .int .i64 ((rd_T55 l1 x5_1).f1.f3), .int .i64 ((rd_T55 l1 x5_1).f1.f4), .int .i64 ((rd_T55 l1 x5_1).f1.f5), .int .i64 ((rd_T55 l1 x5_1).f1.f6)]] (by rfl) rfl rfl (by (try simp only [List.map_toArray, List.map_cons, List.map_nil]); first | done | rfl | (simp only [List.length_drop, List.length_take]; rfl)) ?_
        with_reducible refine (laws_eqEffect.calls ((rd_T55 l0 x5_1).f0) ((rd_T55 l0 x5_1).f1.f0) ((rd_T55 l0 x5_1).f1.f1) ((rd_T55 l0 x5_1).f1.f2) ((rd_T55 l0 x5_1).f1.f3) ((rd_T55 l0 x5_1).f1.f4) ((rd_T55 l0 x5_1).f1.f5) ((rd_T55 l0 x5_1).f1.f6) ((rd_T55 l1 x5_1).f0) ((rd_T55 l1 x5_1).f1.f0) ((rd_T55 l1 x5_1).f1.f1) ((rd_T55 l1 x5_1).f1.f2) ((rd_T55 l1 x5_1).f1.f3) ((rd_T55 l1 x5_1).f1.f4) ((rd_T55 l1 x5_1).f1.f5) ((rd_T55 l1 x5_1).f1.f6) false _ A7.out).mono ?_
        rintro e w12 ⟨rfl, hb⟩
        refine ⟨_, rfl, ?_⟩
        have n0_ := Aside0.mk (zm (by repeat (first | (with_reducible first | exact HB.out | apply zf | apply zc | apply ze) | exact HB.out)) hb)
        clear HB
        have HB := n0_
        clear n0_
        (try clear hb)
        (try clear hb2)
        (try clear hk)
        (try clear hi)
        refine hK.out _ _ ⟨(zb HB.out hw203_0), (zb HB.out hw203_1), (zb HB.out hw203_2), (zb HB.out hw203_3), (zb HB.out hw203_4), (zb HB.out hw203_5), (zb HB.out hw203_6), (zb HB.out hw203_7), (zb HB.out hw204_0), (zb HB.out hw204_1), (zb HB.out hw204_2), (zb HB.out hw204_3), (zb HB.out hw204_4), (zb HB.out hw204_5), (zb HB.out hw204_6), (zb HB.out hw204_7)⟩ (fun hHeld => ?_)
        clear hK K
        refine norm_ (a' := ?_) ?_ ?_
        rotate_left
        ·show Act.put _ (some 25) _ = _
         simp only [Act.put, List.setIfInBounds_toArray, List.set_cons_zero, List.set_cons_succ, zp, zr]
         rfl
        refine zv (i := 9) (N := some 26) (v := ?_) (a' := ?_) #[true, true, true, true, true, true, true, true, true, true] rfl rfl (zu HT_.out (by kernel_rfl)) (fun _ _ _ h => h) (Or.inl ⟨by rfl, ?_⟩) ?_ ?_
        rotate_left
        ·intro w'
         go_simp
         with_reducible rfl
        rotate_left
        ·simp only [Act.put, List.setIfInBounds_toArray, List.set_cons_zero, List.set_cons_succ, zp, zr]
         rfl
        refine done_ (done_of HT_.out (by kernel_rfl)) ?_
        try go_wp2
        go_ret
        exact ⟨by first | rfl | (simp [errW_none, errW_some] <;> rfl) | (simp [*, errW_none, errW_some] <;> rfl), by repeat (first | (with_reducible first | exact HB.out | apply zf | apply zc | apply ze) | exact HB.out)⟩
      ·rw [if_neg c6] at H
       exact absurd H (by simp)
     ·rw [if_neg c5] at H
      exact absurd H (by simp)
    ·rw [if_neg c4] at H
     have c4b0 : decide (x5_1 < (l0.length : Int)) = false := decide_eq_false c4
     clear c4
     obtain rfl := Option.some.inj H
     go_wp2
     go_ret
     exact ⟨by first | rfl | (simp [errW_none, errW_some] <;> rfl) | (simp [*, errW_none, errW_some] <;> rfl), by repeat (first | (with_reducible first | exact HB.out | apply zf | apply zc | apply ze) | exact HB.out)⟩
 ·rw [if_neg c3] at H
  have c3b0 : ((l0.length : Int) == (l1.length : Int)) = false := beq_eq_false_iff_ne.mpr c3
  have c3b1 : ((l0.length : Int) != (l1.length : Int)) = true := bne_iff_ne.mpr c3
  have c3b2 : (l0.length == l1.length) = false := by first | simpa using c3 | (simp at c3 ⊢; omega)
  obtain rfl := Option.some.inj H
  go_enter Tryd.func57, Tryd.ntmps57
  go_wp2
  go_ret
  exact ⟨by first | rfl | (simp [errW_none, errW_some] <;> rfl) | (simp [*, errW_none, errW_some] <;> rfl), by repeat (first | (with_reducible first | exact HB.out | apply zf | apply zc | apply ze) | exact HB.out)⟩

def laws_eqTxn.f (k : Nat) (a0_0 : Int) (l0_1 : List (S55)) (a1_0 : Int) (l1_1 : List (S55)) : Option (Bool) := if a0_0 = a1_0 then ((laws_eqEffectS.f k l0_1 l1_1).bind fun t208 => (if t208 = true then (some true) else (some false))) else (some false)
theorem laws_eqTxn.mono : ∀ a0 a1 a2 a3 k, LeO (laws_eqTxn.f k a0 a1 a2 a3) (laws_eqTxn.f (k + 1) a0 a1 a2 a3) := by
 intro a0 a1 a2 a3 k
 unfold laws_eqTxn.f
 repeat' first
   | (with_reducible exact laws_eqEffectS.mono _ _ _)
   | (with_reducible exact LeO.refl _)
   | (with_reducible exact LeO.none _)
   | (with_reducible refine LeO.ite ?_ ?_)
   | (with_reducible refine LeO.bind ?_ (fun _ => ?_))
   | exact laws_eqEffectS.mono _ _ _
   | exact LeO.none _
   | refine LeO.ite ?_ ?_
   | refine LeO.bind ?_ (fun _ => ?_)
set_option maxHeartbeats 8000000 in
set_option maxRecDepth 100000 in
theorem laws_eqTxn.calls (k : Nat) (a0_0 : Int) (A0_1 : Option Addr) (c0_1 : Nat) (l0_1 : List (S55)) (a1_0 : Int) (A1_1 : Option Addr) (c1_1 : Nat) (l1_1 : List (S55)) (r : Bool) (w : World) (hr0_1 : Kd.C k55 w A0_1 l0_1.length l0_1) (hc0_1 : l0_1.length ≤ c0_1) (hr1_1 : Kd.C k55 w A1_1 l1_1.length l1_1) (hc1_1 : l1_1.length ≤ c1_1) (h : laws_eqTxn.f k a0_0 l0_1 a1_0 l1_1 = some r) :
  Calls Tryd.prog 35 #[.agg #[.int .i64 a0_0, .slice A0_1 l0_1.length c0_1], .agg #[.int .i64 a1_0, .slice A1_1 l1_1.length c1_1]] w fun e w' => e = .returned (.bool r) ∧ Below w.heap.size w w' := by
 have hu25 := Tryd.underlying25
 have HR0_1 := Aside0.mk hr0_1
 have HC0_1 := Aside0.mk hc0_1
 clear hr0_1 hc0_1
 have HR1_1 := Aside0.mk hr1_1
 have HC1_1 := Aside0.mk hc1_1
 clear hr1_1 hc1_1
 have HB := Aside0.mk (Below.refl w.heap.size w)
 have H : (if a0_0 = a1_0 then ((laws_eqEffectS.f k l0_1 l1_1).bind fun t208 => (if t208 = true then (some true) else (some false))) else (some false)) = some r := h
 clear h
 by_cases c3 : a0_0 = a1_0
 ·rw [if_pos c3] at H
  have c3b0 : (a0_0 == a1_0) = true := beq_iff_eq.mpr c3
  have c3b1 : (a0_0 != a1_0) = false := bne_eq_false_iff_eq.mpr c3
  clear c3
  replace H := Option.bind_eq_some_iff.mp H
  obtain ⟨t208, A40, H⟩ := H
  replace H : (if t208 = true then (some true) else (some false)) = some r := H
  have A4 := Aside0.mk A40
  clear A40
  by_cases c5 : t208 = true
  ·subst c5
   have H1 : (some true) = some r := by rw [if_pos rfl] at H; exact H
   clear H
   have H := H1
   clear H1
   obtain rfl := Option.some.inj H
   go_enter Tryd.func35, Tryd.ntmps35
   go_wp2_with (first | ((with_reducible refine zw (N := 2) rfl ?_); refine zx ?hg (N := 2) ?hd (cs := #[.int .i64 a0_0, .slice A0_1 l0_1.length c0_1]) (t := 25) ?hr ?_; (case hd => rfl); (case hg => rfl); (case hr => first | (go_simp; done) | (go_simp; rfl)); intro zB hg w6 hbox hb; have n0_ := Aside0.mk (zm (by repeat (first | (with_reducible first | exact HB.out | apply zf | apply zc | apply ze) | exact HB.out)) hb); have n1_ := Aside0.mk (hbox); have n2_ := Aside0.mk ((by rw [hg]; exact (zl (by repeat (first | (with_reducible first | exact HB.out | apply zf | apply zc | apply ze) | exact HB.out))) : w.heap.size ≤ zB)); have n3_ := Aside0.mk ((by rw [hg]; exact (zl (by repeat (first | (with_reducible first | exact HB.out | apply zf | apply zc | apply ze) | exact HB.out))) : w.heap.size ≤ zB)); clear HB; have HB := n0_; have zA := n1_; have GW206 := n2_; have zE := n3_; clear n0_ n1_ n2_ n3_; clear hb hbox hg) | ((with_reducible refine zw (N := 3) rfl ?_); refine zx ?hg (N := 3) ?hd (cs := #[.int .i64 a1_0, .slice A1_1 l1_1.length c1_1]) (t := 25) ?hr ?_; (case hd => rfl); (case hg => rfl); (case hr => first | (go_simp; done) | (go_simp; rfl)); intro zC hg w7 hbox hb; have n0_ := Aside0.mk (zt (g := zB) (o := .cells #[.int .i64 a0_0, .slice A0_1 l0_1.length c0_1] 25 (0, 0)) (by (with_reducible repeat (first | refine zh ?_ _ | refine zj ?_ | refine zg ?_ _)); exact zA.out) hb); have n1_ := Aside0.mk (zm (by repeat (first | (with_reducible first | exact HB.out | apply zf | apply zc | apply ze | refine zk ?_ zE.out) | exact HB.out)) hb); have n2_ := Aside0.mk (hbox); have n3_ := Aside0.mk ((by rw [hg]; exact (zl (by repeat (first | (with_reducible first | exact HB.out | apply zf | apply zc | apply ze | refine zk ?_ zE.out) | exact HB.out))) : w.heap.size ≤ zC)); have n4_ := Aside0.mk ((by rw [hg]; exact (zl (by repeat (first | (with_reducible first | exact HB.out | apply zf | apply zc | apply ze | refine zk ?_ zE.out) | exact HB.out))) : w.heap.size ≤ zC)); have n5_ := Aside0.mk ((by rw [hg]; exact Nat.ne_of_lt (zy (g := zB) (o := .cells #[.int .i64 a0_0, .slice A0_1 l0_1.length c0_1] 25 (0, 0)) (by (with_reducible repeat (first | refine zh ?_ _ | refine zj ?_ | refine zg ?_ _)); exact zA.out)) : zB ≠ zC)); have n6_ := Aside0.mk ((by rw [hg]; exact Nat.ne_of_gt (zy (g := zB) (o := .cells #[.int .i64 a0_0, .slice A0_1 l0_1.length c0_1] 25 (0, 0)) (by (with_reducible repeat (first | refine zh ?_ _ | refine zj ?_ | refine zg ?_ _)); exact zA.out)) : zC ≠ zB)); clear zA; clear HB; have zA := n0_; have HB := n1_; have zD := n2_; have GW207 := n3_; have zH := n4_; have zF := n5_; have zG := n6_; clear n0_ n1_ n2_ n3_ n4_ n5_ n6_; clear hb hbox hg; have zkb := zF.out; have zlb := zG.out; have zcb : w7.cell? ⟨zB, 0, none⟩ = some (.int .i64 a0_0) := (zi zA.out 0).trans rfl; have zdb : w7.cell? ⟨zB, 1, none⟩ = some (.slice A0_1 l0_1.length c0_1) := (zi zA.out 1).trans rfl; have zeb := zd zA.out 0; have zfb := zd zA.out 1; have zI : w7.cell? ⟨zC, 0, none⟩ = some (.int .i64 a1_0) := (zi zD.out 0).trans rfl; have zJ : w7.cell? ⟨zC, 1, none⟩ = some (.slice A1_1 l1_1.length c1_1) := (zi zD.out 1).trans rfl; have zK := zd zD.out 0; have zL := zd zD.out 1) | ((with_reducible refine zn (f := 57) rfl ?_); refine zz (some 14) rfl rfl Tryd.func57 (by kernel_rfl) rfl #[.slice A0_1 l0_1.length c0_1, .slice A1_1 l1_1.length c1_1] rfl (by (try simp only [List.map_toArray, List.map_cons, List.map_nil]); first | done | rfl | (simp only [List.length_drop, List.length_take]; rfl)) ?_; (with_reducible refine (laws_eqEffectS.calls k _ _ l0_1 _ _ l1_1 true _ ?side1 ?side2 ?side3 ?side4 A4.out).mono ?_); (case side1 => repeat (first | exact (Kd.C_below HR0_1.out HB.out) | (with_reducible refine Kd.C_alloc ?_ _) | (with_reducible refine Kd.C_drewN ?_ _) | (with_reducible refine Kd.C_drew ?_))); (case side2 => exact HC0_1.out); (case side3 => repeat (first | exact (Kd.C_below HR1_1.out HB.out) | (with_reducible refine Kd.C_alloc ?_ _) | (with_reducible refine Kd.C_drewN ?_ _) | (with_reducible refine Kd.C_drew ?_))); (case side4 => exact HC1_1.out); rintro e w11 ⟨rfl, hb⟩; refine ⟨_, rfl, ?_⟩; have n0_ := Aside0.mk (zt (g := zB) (o := .cells #[.int .i64 a0_0, .slice A0_1 l0_1.length c0_1] 25 (0, 0)) (by (with_reducible repeat (first | refine zh ?_ _ | refine zj ?_ | refine zg ?_ _)); exact zA.out) hb); have n1_ := Aside0.mk (zt (g := zC) (o := .cells #[.int .i64 a1_0, .slice A1_1 l1_1.length c1_1] 25 (0, 0)) (by (with_reducible repeat (first | refine zh ?_ _ | refine zj ?_ | refine zg ?_ _)); exact zD.out) hb); have n2_ := Aside0.mk (zm (by repeat (first | (with_reducible first | exact HB.out | apply zf | apply zc | apply ze | refine zk ?_ zE.out | refine zk ?_ zH.out) | exact HB.out)) hb); clear zA; clear zD; clear HB; have zA := n0_; have zD := n1_; have HB := n2_; clear n0_ n1_ n2_; (try clear hb); (try clear hb2); (try clear hk); (try clear hi)))
   go_ret
   exact ⟨by first | rfl | (simp [errW_none, errW_some] <;> rfl) | (simp [*, errW_none, errW_some] <;> rfl), by repeat (first | (with_reducible first | exact HB.out | apply zf | apply zc | apply ze | refine zk ?_ zE.out | refine zk ?_ zH.out) | exact HB.out)⟩
  ·replace c5 := Bool.eq_false_iff.mpr c5
   subst c5
   have H1 : (some false) = some r := by rw [if_neg (show ¬ (false = true) by decide)] at H; exact H
   clear H
   have H := H1
   clear H1
   obtain rfl := Option.some.inj H
   go_enter Tryd.func35, Tryd.ntmps35
   go_wp2_with (first | ((with_reducible refine zw (N := 2) rfl ?_); refine zx ?hg (N := 2) ?hd (cs := #[.int .i64 a0_0, .slice A0_1 l0_1.length c0_1]) (t := 25) ?hr ?_; (case hd => rfl); (case hg => rfl); (case hr => first | (go_simp; done) | (go_simp; rfl)); intro zB hg w12 hbox hb; have n0_ := Aside0.mk (zm (by repeat (first | (with_reducible first | exact HB.out | apply zf | apply zc | apply ze) | exact HB.out)) hb); have n1_ := Aside0.mk (hbox); have n2_ := Aside0.mk ((by rw [hg]; exact (zl (by repeat (first | (with_reducible first | exact HB.out | apply zf | apply zc | apply ze) | exact HB.out))) : w.heap.size ≤ zB)); have n3_ := Aside0.mk ((by rw [hg]; exact (zl (by repeat (first | (with_reducible first | exact HB.out | apply zf | apply zc | apply ze) | exact HB.out))) : w.heap.size ≤ zB)); clear HB; have HB := n0_; have zA := n1_; have GW206 := n2_; have zE := n3_; clear n0_ n1_ n2_ n3_; clear hb hbox hg) | ((with_reducible refine zw (N := 3) rfl ?_); refine zx ?hg (N := 3) ?hd (cs := #[.int .i64 a1_0, .slice A1_1 l1_1.length c1_1]) (t := 25) ?hr ?_; (case hd => rfl); (case hg => rfl); (case hr => first | (go_simp; done) | (go_simp; rfl)); intro zC hg w13 hbox hb; have n0_ := Aside0.mk (zt (g := zB) (o := .cells #[.int .i64 a0_0, .slice A0_1 l0_1.length c0_1] 25 (0, 0)) (by (with_reducible repeat (first | refine zh ?_ _ | refine zj ?_ | refine zg ?_ _)); exact zA.out) hb); have n1_ := Aside0.mk (zm (by repeat (first | (with_reducible first | exact HB.out | apply zf | apply zc | apply ze | refine zk ?_ zE.out) | exact HB.out)) hb); have n2_ := Aside0.mk (hbox); have n3_ := Aside0.mk ((by rw [hg]; exact (zl (by repeat (first | (with_reducible first | exact HB.out | apply zf | apply zc | apply ze | refine zk ?_ zE.out) | exact HB.out))) : w.heap.size ≤ zC)); have n4_ := Aside0.mk ((by rw [hg]; exact (zl (by repeat (first | (with_reducible first | exact HB.out | apply zf | apply zc | apply ze | refine zk ?_ zE.out) | exact HB.out))) : w.heap.size ≤ zC)); have n5_ := Aside0.mk ((by rw [hg]; exact Nat.ne_of_lt (zy (g := zB) (o := .cells #[.int .i64 a0_0, .slice A0_1 l0_1.length c0_1] 25 (0, 0)) (by (with_reducible repeat (first | refine zh ?_ _ | refine zj ?_ | refine zg ?_ _)); exact zA.out)) : zB ≠ zC)); have n6_ := Aside0.mk ((by rw [hg]; exact Nat.ne_of_gt (zy (g := zB) (o := .cells #[.int .i64 a0_0, .slice A0_1 l0_1.length c0_1] 25 (0, 0)) (by (with_reducible repeat (first | refine zh ?_ _ | refine zj ?_ | refine zg ?_ _)); exact zA.out)) : zC ≠ zB)); clear zA; clear HB; have zA := n0_; have HB := n1_; have zD := n2_; have GW207 := n3_; have zH := n4_; have zF := n5_; have zG := n6_; clear n0_ n1_ n2_ n3_ n4_ n5_ n6_; clear hb hbox hg; have zgb := zF.out; have zhb := zG.out; have zM : w13.cell? ⟨zB, 0, none⟩ = some (.int .i64 a0_0) := (zi zA.out 0).trans rfl; have zN : w13.cell? ⟨zB, 1, none⟩ = some (.slice A0_1 l0_1.length c0_1) := (zi zA.out 1).trans rfl; have zO := zd zA.out 0; have zP := zd zA.out 1; have zQ : w13.cell? ⟨zC, 0, none⟩ = some (.int .i64 a1_0) := (zi zD.out 0).trans rfl; have zR : w13.cell? ⟨zC, 1, none⟩ = some (.slice A1_1 l1_1.length c1_1) := (zi zD.out 1).trans rfl; have zS := zd zD.out 0; have zT := zd zD.out 1) | ((with_reducible refine zn (f := 57) rfl ?_); refine zz (some 14) rfl rfl Tryd.func57 (by kernel_rfl) rfl #[.slice A0_1 l0_1.length c0_1, .slice A1_1 l1_1.length c1_1] rfl (by (try simp only [List.map_toArray, List.map_cons, List.map_nil]); first | done | rfl | (simp only [List.length_drop, List.length_take]; rfl)) ?_; (with_reducible refine (laws_eqEffectS.calls k _ _ l0_1 _ _ l1_1 false _ ?side1 ?side2 ?side3 ?side4 A4.out).mono ?_); (case side1 => repeat (first | exact (Kd.C_below HR0_1.out HB.out) | (with_reducible refine Kd.C_alloc ?_ _) | (with_reducible refine Kd.C_drewN ?_ _) | (with_reducible refine Kd.C_drew ?_))); (case side2 => exact HC0_1.out); (case side3 => repeat (first | exact (Kd.C_below HR1_1.out HB.out) | (with_reducible refine Kd.C_alloc ?_ _) | (with_reducible refine Kd.C_drewN ?_ _) | (with_reducible refine Kd.C_drew ?_))); (case side4 => exact HC1_1.out); rintro e w17 ⟨rfl, hb⟩; refine ⟨_, rfl, ?_⟩; have n0_ := Aside0.mk (zt (g := zB) (o := .cells #[.int .i64 a0_0, .slice A0_1 l0_1.length c0_1] 25 (0, 0)) (by (with_reducible repeat (first | refine zh ?_ _ | refine zj ?_ | refine zg ?_ _)); exact zA.out) hb); have n1_ := Aside0.mk (zt (g := zC) (o := .cells #[.int .i64 a1_0, .slice A1_1 l1_1.length c1_1] 25 (0, 0)) (by (with_reducible repeat (first | refine zh ?_ _ | refine zj ?_ | refine zg ?_ _)); exact zD.out) hb); have n2_ := Aside0.mk (zm (by repeat (first | (with_reducible first | exact HB.out | apply zf | apply zc | apply ze | refine zk ?_ zE.out | refine zk ?_ zH.out) | exact HB.out)) hb); clear zA; clear zD; clear HB; have zA := n0_; have zD := n1_; have HB := n2_; clear n0_ n1_ n2_; (try clear hb); (try clear hb2); (try clear hk); (try clear hi)))
   go_ret
   exact ⟨by first | rfl | (simp [errW_none, errW_some] <;> rfl) | (simp [*, errW_none, errW_some] <;> rfl), by repeat (first | (with_reducible first | exact HB.out | apply zf | apply zc | apply ze | refine zk ?_ zE.out | refine zk ?_ zH.out) | exact HB.out)⟩
 ·rw [if_neg c3] at H
  have c3b0 : (a0_0 == a1_0) = false := beq_eq_false_iff_ne.mpr c3
  have c3b1 : (a0_0 != a1_0) = true := bne_iff_ne.mpr c3
  obtain rfl := Option.some.inj H
  go_enter Tryd.func35, Tryd.ntmps35
  go_wp2_with (first | ((with_reducible refine zw (N := 2) rfl ?_); refine zx ?hg (N := 2) ?hd (cs := #[.int .i64 a0_0, .slice A0_1 l0_1.length c0_1]) (t := 25) ?hr ?_; (case hd => rfl); (case hg => rfl); (case hr => first | (go_simp; done) | (go_simp; rfl)); intro zB hg w18 hbox hb; have n0_ := Aside0.mk (zm (by repeat (first | (with_reducible first | exact HB.out | apply zf | apply zc | apply ze) | exact HB.out)) hb); have n1_ := Aside0.mk (hbox); have n2_ := Aside0.mk ((by rw [hg]; exact (zl (by repeat (first | (with_reducible first | exact HB.out | apply zf | apply zc | apply ze) | exact HB.out))) : w.heap.size ≤ zB)); have n3_ := Aside0.mk ((by rw [hg]; exact (zl (by repeat (first | (with_reducible first | exact HB.out | apply zf | apply zc | apply ze) | exact HB.out))) : w.heap.size ≤ zB)); clear HB; have HB := n0_; have zA := n1_; have GW206 := n2_; have zE := n3_; clear n0_ n1_ n2_ n3_; clear hb hbox hg) | ((with_reducible refine zw (N := 3) rfl ?_); refine zx ?hg (N := 3) ?hd (cs := #[.int .i64 a1_0, .slice A1_1 l1_1.length c1_1]) (t := 25) ?hr ?_; (case hd => rfl); (case hg => rfl); (case hr => first | (go_simp; done) | (go_simp; rfl)); intro zC hg w19 hbox hb; have n0_ := Aside0.mk (zt (g := zB) (o := .cells #[.int .i64 a0_0, .slice A0_1 l0_1.length c0_1] 25 (0, 0)) (by (with_reducible repeat (first | refine zh ?_ _ | refine zj ?_ | refine zg ?_ _)); exact zA.out) hb); have n1_ := Aside0.mk (zm (by repeat (first | (with_reducible first | exact HB.out | apply zf | apply zc | apply ze | refine zk ?_ zE.out) | exact HB.out)) hb); have n2_ := Aside0.mk (hbox); have n3_ := Aside0.mk ((by rw [hg]; exact (zl (by repeat (first | (with_reducible first | exact HB.out | apply zf | apply zc | apply ze | refine zk ?_ zE.out) | exact HB.out))) : w.heap.size ≤ zC)); have n4_ := Aside0.mk ((by rw [hg]; exact (zl (by repeat (first | (with_reducible first | exact HB.out | apply zf | apply zc | apply ze | refine zk ?_ zE.out) | exact HB.out))) : w.heap.size ≤ zC)); have n5_ := Aside0.mk ((by rw [hg]; exact Nat.ne_of_lt (zy (g := zB) (o := .cells #[.int .i64 a0_0, .slice A0_1 l0_1.length c0_1] 25 (0, 0)) (by (with_reducible repeat (first | refine zh ?_ _ | refine zj ?_ | refine zg ?_ _)); exact zA.out)) : zB ≠ zC)); have n6_ := Aside0.mk ((by rw [hg]; exact Nat.ne_of_gt (zy (g := zB) (o := .cells #[.int .i64 a0_0, .slice A0_1 l0_1.length c0_1] 25 (0, 0)) (by (with_reducible repeat (first | refine zh ?_ _ | refine zj ?_ | refine zg ?_ _)); exact zA.out)) : zC ≠ zB)); clear zA; clear HB; have zA := n0_; have HB := n1_; have zD := n2_; have GW207 := n3_; have zH := n4_; have zF := n5_; have zG := n6_; clear n0_ n1_ n2_ n3_ n4_ n5_ n6_; clear hb hbox hg; have zib := zF.out; have zjb := zG.out; have zU : w19.cell? ⟨zB, 0, none⟩ = some (.int .i64 a0_0) := (zi zA.out 0).trans rfl; have zV : w19.cell? ⟨zB, 1, none⟩ = some (.slice A0_1 l0_1.length c0_1) := (zi zA.out 1).trans rfl; have zW := zd zA.out 0; have zX := zd zA.out 1; have zY : w19.cell? ⟨zC, 0, none⟩ = some (.int .i64 a1_0) := (zi zD.out 0).trans rfl; have zZ : w19.cell? ⟨zC, 1, none⟩ = some (.slice A1_1 l1_1.length c1_1) := (zi zD.out 1).trans rfl; have zab := zd zD.out 0; have zbb := zd zD.out 1))
  go_ret
  exact ⟨by first | rfl | (simp [errW_none, errW_some] <;> rfl) | (simp [*, errW_none, errW_some] <;> rfl), by repeat (first | (with_reducible first | exact HB.out | apply zf | apply zc | apply ze | refine zk ?_ zE.out | refine zk ?_ zH.out) | exact HB.out)⟩

def laws_eqTxnResult.f (k : Nat) (a0_0 : Bool) (a0_1 : Int) (l0_2 : List (S55)) (a1_0 : Bool) (a1_1 : Int) (l1_2 : List (S55)) : Option (Bool) := if (a0_0 != a1_0) = true then (some false) else ((laws_eqTxn.f k a0_1 l0_2 a1_1 l1_2).bind fun t211 => (if t211 = true then (some true) else (some false)))
theorem laws_eqTxnResult.mono : ∀ a0 a1 a2 a3 a4 a5 k, LeO (laws_eqTxnResult.f k a0 a1 a2 a3 a4 a5) (laws_eqTxnResult.f (k + 1) a0 a1 a2 a3 a4 a5) := by
 intro a0 a1 a2 a3 a4 a5 k
 unfold laws_eqTxnResult.f
 repeat' first
   | (with_reducible exact laws_eqTxn.mono _ _ _ _ _)
   | (with_reducible exact LeO.refl _)
   | (with_reducible exact LeO.none _)
   | (with_reducible refine LeO.ite ?_ ?_)
   | (with_reducible refine LeO.bind ?_ (fun _ => ?_))
   | exact laws_eqTxn.mono _ _ _ _ _
   | exact LeO.none _
   | refine LeO.ite ?_ ?_
   | refine LeO.bind ?_ (fun _ => ?_)
set_option maxHeartbeats 8000000 in
set_option maxRecDepth 100000 in
theorem laws_eqTxnResult.calls (k : Nat) (a0_0 : Bool) (a0_1 : Int) (A0_2 : Option Addr) (c0_2 : Nat) (l0_2 : List (S55)) (a1_0 : Bool) (a1_1 : Int) (A1_2 : Option Addr) (c1_2 : Nat) (l1_2 : List (S55)) (r : Bool) (w : World) (hr0_2 : Kd.C k55 w A0_2 l0_2.length l0_2) (hc0_2 : l0_2.length ≤ c0_2) (hr1_2 : Kd.C k55 w A1_2 l1_2.length l1_2) (hc1_2 : l1_2.length ≤ c1_2) (h : laws_eqTxnResult.f k a0_0 a0_1 l0_2 a1_0 a1_1 l1_2 = some r) :
  Calls Tryd.prog 9 #[.agg #[.bool a0_0, .int .i64 a0_1, .slice A0_2 l0_2.length c0_2], .agg #[.bool a1_0, .int .i64 a1_1, .slice A1_2 l1_2.length c1_2]] w fun e w' => e = .returned (.bool r) ∧ Below w.heap.size w w' := by
 have hu27 := Tryd.underlying27
 have hu25 := Tryd.underlying25
 have HR0_2 := Aside0.mk hr0_2
 have HC0_2 := Aside0.mk hc0_2
 clear hr0_2 hc0_2
 have HR1_2 := Aside0.mk hr1_2
 have HC1_2 := Aside0.mk hc1_2
 clear hr1_2 hc1_2
 have HB := Aside0.mk (Below.refl w.heap.size w)
 have H : (if (a0_0 != a1_0) = true then (some false) else ((laws_eqTxn.f k a0_1 l0_2 a1_1 l1_2).bind fun t211 => (if t211 = true then (some true) else (some false)))) = some r := h
 clear h
 by_cases c3 : (a0_0 != a1_0) = true
 ·rw [if_pos c3] at H
  have c3b0 : (a0_0 != a1_0) = true := c3
  (try (have c3b1 : decide (a0_0 = a1_0) = false := by simpa using c3))
  (try (have c3b2 : (a0_0 == a1_0) = false := by simpa using c3))
  (try (have c3b3 : ¬ (a0_0 = a1_0) := by simpa using c3))
  clear c3
  obtain rfl := Option.some.inj H
  go_enter Tryd.func9, Tryd.ntmps9
  go_wp2_with (first | ((with_reducible refine zw (N := 2) rfl ?_); refine zx ?hg (N := 2) ?hd (cs := #[.bool a0_0, .int .i64 a0_1, .slice A0_2 l0_2.length c0_2]) (t := 27) ?hr ?_; (case hd => rfl); (case hg => rfl); (case hr => first | (go_simp; done) | (go_simp; rfl)); intro zB hg w4 hbox hb; have n0_ := Aside0.mk (zm (by repeat (first | (with_reducible first | exact HB.out | apply zf | apply zc | apply ze) | exact HB.out)) hb); have n1_ := Aside0.mk (hbox); have n2_ := Aside0.mk ((by rw [hg]; exact (zl (by repeat (first | (with_reducible first | exact HB.out | apply zf | apply zc | apply ze) | exact HB.out))) : w.heap.size ≤ zB)); have n3_ := Aside0.mk ((by rw [hg]; exact (zl (by repeat (first | (with_reducible first | exact HB.out | apply zf | apply zc | apply ze) | exact HB.out))) : w.heap.size ≤ zB)); clear HB; have HB := n0_; have zA := n1_; have GW209 := n2_; have zE := n3_; clear n0_ n1_ n2_ n3_; clear hb hbox hg) | ((with_reducible refine zw (N := 3) rfl ?_); refine zx ?hg (N := 3) ?hd (cs := #[.bool a1_0, .int .i64 a1_1, .slice A1_2 l1_2.length c1_2]) (t := 27) ?hr ?_; (case hd => rfl); (case hg => rfl); (case hr => first | (go_simp; done) | (go_simp; rfl)); intro zD hg w5 hbox hb; have n0_ := Aside0.mk (zt (g := zB) (o := .cells #[.bool a0_0, .int .i64 a0_1, .slice A0_2 l0_2.length c0_2] 27 (0, 0)) (by (with_reducible repeat (first | refine zh ?_ _ | refine zj ?_ | refine zg ?_ _)); exact zA.out) hb); have n1_ := Aside0.mk (zm (by repeat (first | (with_reducible first | exact HB.out | apply zf | apply zc | apply ze | refine zk ?_ zE.out) | exact HB.out)) hb); have n2_ := Aside0.mk (hbox); have n3_ := Aside0.mk ((by rw [hg]; exact (zl (by repeat (first | (with_reducible first | exact HB.out | apply zf | apply zc | apply ze | refine zk ?_ zE.out) | exact HB.out))) : w.heap.size ≤ zD)); have n4_ := Aside0.mk ((by rw [hg]; exact (zl (by repeat (first | (with_reducible first | exact HB.out | apply zf | apply zc | apply ze | refine zk ?_ zE.out) | exact HB.out))) : w.heap.size ≤ zD)); have n5_ := Aside0.mk ((by rw [hg]; exact Nat.ne_of_lt (zy (g := zB) (o := .cells #[.bool a0_0, .int .i64 a0_1, .slice A0_2 l0_2.length c0_2] 27 (0, 0)) (by (with_reducible repeat (first | refine zh ?_ _ | refine zj ?_ | refine zg ?_ _)); exact zA.out)) : zB ≠ zD)); have n6_ := Aside0.mk ((by rw [hg]; exact Nat.ne_of_gt (zy (g := zB) (o := .cells #[.bool a0_0, .int .i64 a0_1, .slice A0_2 l0_2.length c0_2] 27 (0, 0)) (by (with_reducible repeat (first | refine zh ?_ _ | refine zj ?_ | refine zg ?_ _)); exact zA.out)) : zD ≠ zB)); clear zA; clear HB; have zA := n0_; have HB := n1_; have zC := n2_; have GW210 := n3_; have zH := n4_; have zF := n5_; have zG := n6_; clear n0_ n1_ n2_ n3_ n4_ n5_ n6_; clear hb hbox hg; have zwb := zF.out; have zxb := zG.out; have zgb : w5.cell? ⟨zB, 0, none⟩ = some (.bool a0_0) := (zi zA.out 0).trans rfl; have zhb : w5.cell? ⟨zB, 1, none⟩ = some (.int .i64 a0_1) := (zi zA.out 1).trans rfl; have zib : w5.cell? ⟨zB, 2, none⟩ = some (.slice A0_2 l0_2.length c0_2) := (zi zA.out 2).trans rfl; have zjb := zd zA.out 0; have zkb := zd zA.out 1; have zlb := zd zA.out 2; have zmb : w5.cell? ⟨zD, 0, none⟩ = some (.bool a1_0) := (zi zC.out 0).trans rfl; have znb : w5.cell? ⟨zD, 1, none⟩ = some (.int .i64 a1_1) := (zi zC.out 1).trans rfl; have zob : w5.cell? ⟨zD, 2, none⟩ = some (.slice A1_2 l1_2.length c1_2) := (zi zC.out 2).trans rfl; have zpb := zd zC.out 0; have zqb := zd zC.out 1; have zrb := zd zC.out 2))
  go_ret
  exact ⟨by first | rfl | (simp [errW_none, errW_some] <;> rfl) | (simp [*, errW_none, errW_some] <;> rfl), by repeat (first | (with_reducible first | exact HB.out | apply zf | apply zc | apply ze | refine zk ?_ zE.out | refine zk ?_ zH.out) | exact HB.out)⟩
 ·rw [if_neg c3] at H
  have c3b0 : (a0_0 != a1_0) = false := by simpa using c3
  (try (have c3b1 : decide (a0_0 = a1_0) = true := by simpa using c3))
  (try (have c3b2 : (a0_0 == a1_0) = true := by simpa using c3))
  clear c3
  replace H := Option.bind_eq_some_iff.mp H
  obtain ⟨t211, A90, H⟩ := H
  replace H : (if t211 = true then (some true) else (some false)) = some r := H
  have A9 := Aside0.mk A90
  clear A90
  by_cases c10 : t211 = true
  ·subst c10
   have H1 : (some true) = some r := by rw [if_pos rfl] at H; exact H
   clear H
   have H := H1
   clear H1
   obtain rfl := Option.some.inj H
   go_enter Tryd.func9, Tryd.ntmps9
   go_wp2_with (first | ((with_reducible refine zw (N := 2) rfl ?_); refine zx ?hg (N := 2) ?hd (cs := #[.bool a0_0, .int .i64 a0_1, .slice A0_2 l0_2.length c0_2]) (t := 27) ?hr ?_; (case hd => rfl); (case hg => rfl); (case hr => first | (go_simp; done) | (go_simp; rfl)); intro zB hg w11 hbox hb; have n0_ := Aside0.mk (zm (by repeat (first | (with_reducible first | exact HB.out | apply zf | apply zc | apply ze) | exact HB.out)) hb); have n1_ := Aside0.mk (hbox); have n2_ := Aside0.mk ((by rw [hg]; exact (zl (by repeat (first | (with_reducible first | exact HB.out | apply zf | apply zc | apply ze) | exact HB.out))) : w.heap.size ≤ zB)); have n3_ := Aside0.mk ((by rw [hg]; exact (zl (by repeat (first | (with_reducible first | exact HB.out | apply zf | apply zc | apply ze) | exact HB.out))) : w.heap.size ≤ zB)); clear HB; have HB := n0_; have zA := n1_; have GW209 := n2_; have zE := n3_; clear n0_ n1_ n2_ n3_; clear hb hbox hg) | ((with_reducible refine zw (N := 3) rfl ?_); refine zx ?hg (N := 3) ?hd (cs := #[.bool a1_0, .int .i64 a1_1, .slice A1_2 l1_2.length c1_2]) (t := 27) ?hr ?_; (case hd => rfl); (case hg => rfl); (case hr => first | (go_simp; done) | (go_simp; rfl)); intro zD hg w12 hbox hb; have n0_ := Aside0.mk (zt (g := zB) (o := .cells #[.bool a0_0, .int .i64 a0_1, .slice A0_2 l0_2.length c0_2] 27 (0, 0)) (by (with_reducible repeat (first | refine zh ?_ _ | refine zj ?_ | refine zg ?_ _)); exact zA.out) hb); have n1_ := Aside0.mk (zm (by repeat (first | (with_reducible first | exact HB.out | apply zf | apply zc | apply ze | refine zk ?_ zE.out) | exact HB.out)) hb); have n2_ := Aside0.mk (hbox); have n3_ := Aside0.mk ((by rw [hg]; exact (zl (by repeat (first | (with_reducible first | exact HB.out | apply zf | apply zc | apply ze | refine zk ?_ zE.out) | exact HB.out))) : w.heap.size ≤ zD)); have n4_ := Aside0.mk ((by rw [hg]; exact (zl (by repeat (first | (with_reducible first | exact HB.out | apply zf | apply zc | apply ze | refine zk ?_ zE.out) | exact HB.out))) : w.heap.size ≤ zD)); have n5_ := Aside0.mk ((by rw [hg]; exact Nat.ne_of_lt (zy (g := zB) (o := .cells #[.bool a0_0, .int .i64 a0_1, .slice A0_2 l0_2.length c0_2] 27 (0, 0)) (by (with_reducible repeat (first | refine zh ?_ _ | refine zj ?_ | refine zg ?_ _)); exact zA.out)) : zB ≠ zD)); have n6_ := Aside0.mk ((by rw [hg]; exact Nat.ne_of_gt (zy (g := zB) (o := .cells #[.bool a0_0, .int .i64 a0_1, .slice A0_2 l0_2.length c0_2] 27 (0, 0)) (by (with_reducible repeat (first | refine zh ?_ _ | refine zj ?_ | refine zg ?_ _)); exact zA.out)) : zD ≠ zB)); clear zA; clear HB; have zA := n0_; have HB := n1_; have zC := n2_; have GW210 := n3_; have zH := n4_; have zF := n5_; have zG := n6_; clear n0_ n1_ n2_ n3_ n4_ n5_ n6_; clear hb hbox hg; have zsb := zF.out; have ztb := zG.out; have zI : w12.cell? ⟨zB, 0, none⟩ = some (.bool a0_0) := (zi zA.out 0).trans rfl; have zJ : w12.cell? ⟨zB, 1, none⟩ = some (.int .i64 a0_1) := (zi zA.out 1).trans rfl; have zK : w12.cell? ⟨zB, 2, none⟩ = some (.slice A0_2 l0_2.length c0_2) := (zi zA.out 2).trans rfl; have zL := zd zA.out 0; have zM := zd zA.out 1; have zN := zd zA.out 2; have zO : w12.cell? ⟨zD, 0, none⟩ = some (.bool a1_0) := (zi zC.out 0).trans rfl; have zP : w12.cell? ⟨zD, 1, none⟩ = some (.int .i64 a1_1) := (zi zC.out 1).trans rfl; have zQ : w12.cell? ⟨zD, 2, none⟩ = some (.slice A1_2 l1_2.length c1_2) := (zi zC.out 2).trans rfl; have zR := zd zC.out 0; have zS := zd zC.out 1; have zT := zd zC.out 2) | ((with_reducible refine zn (f := 35) rfl ?_); refine zz (some 14) rfl rfl Tryd.func35 (by kernel_rfl) rfl #[.agg #[.int .i64 a0_1, .slice A0_2 l0_2.length c0_2], .agg #[.int .i64 a1_1, .slice A1_2 l1_2.length c1_2]] rfl (by (try simp only [List.map_toArray, List.map_cons, List.map_nil]); first | done | rfl | (simp only [List.length_drop, List.length_take]; rfl)) ?_; (with_reducible refine (laws_eqTxn.calls k a0_1 _ _ l0_2 a1_1 _ _ l1_2 true _ ?side1 ?side2 ?side3 ?side4 A9.out).mono ?_); (case side1 => repeat (first | exact (Kd.C_below HR0_2.out HB.out) | (with_reducible refine Kd.C_alloc ?_ _) | (with_reducible refine Kd.C_drewN ?_ _) | (with_reducible refine Kd.C_drew ?_))); (case side2 => exact HC0_2.out); (case side3 => repeat (first | exact (Kd.C_below HR1_2.out HB.out) | (with_reducible refine Kd.C_alloc ?_ _) | (with_reducible refine Kd.C_drewN ?_ _) | (with_reducible refine Kd.C_drew ?_))); (case side4 => exact HC1_2.out); rintro e w16 ⟨rfl, hb⟩; refine ⟨_, rfl, ?_⟩; have n0_ := Aside0.mk (zt (g := zB) (o := .cells #[.bool a0_0, .int .i64 a0_1, .slice A0_2 l0_2.length c0_2] 27 (0, 0)) (by (with_reducible repeat (first | refine zh ?_ _ | refine zj ?_ | refine zg ?_ _)); exact zA.out) hb); have n1_ := Aside0.mk (zt (g := zD) (o := .cells #[.bool a1_0, .int .i64 a1_1, .slice A1_2 l1_2.length c1_2] 27 (0, 0)) (by (with_reducible repeat (first | refine zh ?_ _ | refine zj ?_ | refine zg ?_ _)); exact zC.out) hb); have n2_ := Aside0.mk (zm (by repeat (first | (with_reducible first | exact HB.out | apply zf | apply zc | apply ze | refine zk ?_ zE.out | refine zk ?_ zH.out) | exact HB.out)) hb); clear zA; clear zC; clear HB; have zA := n0_; have zC := n1_; have HB := n2_; clear n0_ n1_ n2_; (try clear hb); (try clear hb2); (try clear hk); (try clear hi)))
   go_ret
   exact ⟨by first | rfl | (simp [errW_none, errW_some] <;> rfl) | (simp [*, errW_none, errW_some] <;> rfl), by repeat (first | (with_reducible first | exact HB.out | apply zf | apply zc | apply ze | refine zk ?_ zE.out | refine zk ?_ zH.out) | exact HB.out)⟩
  ·replace c10 := Bool.eq_false_iff.mpr c10
   subst c10
   have H1 : (some false) = some r := by rw [if_neg (show ¬ (false = true) by decide)] at H; exact H
   clear H
   have H := H1
   clear H1
   obtain rfl := Option.some.inj H
   go_enter Tryd.func9, Tryd.ntmps9
   go_wp2_with (first | ((with_reducible refine zw (N := 2) rfl ?_); refine zx ?hg (N := 2) ?hd (cs := #[.bool a0_0, .int .i64 a0_1, .slice A0_2 l0_2.length c0_2]) (t := 27) ?hr ?_; (case hd => rfl); (case hg => rfl); (case hr => first | (go_simp; done) | (go_simp; rfl)); intro zB hg w17 hbox hb; have n0_ := Aside0.mk (zm (by repeat (first | (with_reducible first | exact HB.out | apply zf | apply zc | apply ze) | exact HB.out)) hb); have n1_ := Aside0.mk (hbox); have n2_ := Aside0.mk ((by rw [hg]; exact (zl (by repeat (first | (with_reducible first | exact HB.out | apply zf | apply zc | apply ze) | exact HB.out))) : w.heap.size ≤ zB)); have n3_ := Aside0.mk ((by rw [hg]; exact (zl (by repeat (first | (with_reducible first | exact HB.out | apply zf | apply zc | apply ze) | exact HB.out))) : w.heap.size ≤ zB)); clear HB; have HB := n0_; have zA := n1_; have GW209 := n2_; have zE := n3_; clear n0_ n1_ n2_ n3_; clear hb hbox hg) | ((with_reducible refine zw (N := 3) rfl ?_); refine zx ?hg (N := 3) ?hd (cs := #[.bool a1_0, .int .i64 a1_1, .slice A1_2 l1_2.length c1_2]) (t := 27) ?hr ?_; (case hd => rfl); (case hg => rfl); (case hr => first | (go_simp; done) | (go_simp; rfl)); intro zD hg w18 hbox hb; have n0_ := Aside0.mk (zt (g := zB) (o := .cells #[.bool a0_0, .int .i64 a0_1, .slice A0_2 l0_2.length c0_2] 27 (0, 0)) (by (with_reducible repeat (first | refine zh ?_ _ | refine zj ?_ | refine zg ?_ _)); exact zA.out) hb); have n1_ := Aside0.mk (zm (by repeat (first | (with_reducible first | exact HB.out | apply zf | apply zc | apply ze | refine zk ?_ zE.out) | exact HB.out)) hb); have n2_ := Aside0.mk (hbox); have n3_ := Aside0.mk ((by rw [hg]; exact (zl (by repeat (first | (with_reducible first | exact HB.out | apply zf | apply zc | apply ze | refine zk ?_ zE.out) | exact HB.out))) : w.heap.size ≤ zD)); have n4_ := Aside0.mk ((by rw [hg]; exact (zl (by repeat (first | (with_reducible first | exact HB.out | apply zf | apply zc | apply ze | refine zk ?_ zE.out) | exact HB.out))) : w.heap.size ≤ zD)); have n5_ := Aside0.mk ((by rw [hg]; exact Nat.ne_of_lt (zy (g := zB) (o := .cells #[.bool a0_0, .int .i64 a0_1, .slice A0_2 l0_2.length c0_2] 27 (0, 0)) (by (with_reducible repeat (first | refine zh ?_ _ | refine zj ?_ | refine zg ?_ _)); exact zA.out)) : zB ≠ zD)); have n6_ := Aside0.mk ((by rw [hg]; exact Nat.ne_of_gt (zy (g := zB) (o := .cells #[.bool a0_0, .int .i64 a0_1, .slice A0_2 l0_2.length c0_2] 27 (0, 0)) (by (with_reducible repeat (first | refine zh ?_ _ | refine zj ?_ | refine zg ?_ _)); exact zA.out)) : zD ≠ zB)); clear zA; clear HB; have zA := n0_; have HB := n1_; have zC := n2_; have GW210 := n3_; have zH := n4_; have zF := n5_; have zG := n6_; clear n0_ n1_ n2_ n3_ n4_ n5_ n6_; clear hb hbox hg; have zub := zF.out; have zvb := zG.out; have zU : w18.cell? ⟨zB, 0, none⟩ = some (.bool a0_0) := (zi zA.out 0).trans rfl; have zV : w18.cell? ⟨zB, 1, none⟩ = some (.int .i64 a0_1) := (zi zA.out 1).trans rfl; have zW : w18.cell? ⟨zB, 2, none⟩ = some (.slice A0_2 l0_2.length c0_2) := (zi zA.out 2).trans rfl; have zX := zd zA.out 0; have zY := zd zA.out 1; have zZ := zd zA.out 2; have zab : w18.cell? ⟨zD, 0, none⟩ = some (.bool a1_0) := (zi zC.out 0).trans rfl; have zbb : w18.cell? ⟨zD, 1, none⟩ = some (.int .i64 a1_1) := (zi zC.out 1).trans rfl; have zcb : w18.cell? ⟨zD, 2, none⟩ = some (.slice A1_2 l1_2.length c1_2) := (zi zC.out 2).trans rfl; have zdb := zd zC.out 0; have zeb := zd zC.out 1; have zfb := zd zC.out 2) | ((with_reducible refine zn (f := 35) rfl ?_); refine zz (some 14) rfl rfl Tryd.func35 (by kernel_rfl) rfl #[.agg #[.int .i64 a0_1, .slice A0_2 l0_2.length c0_2], .agg #[.int .i64 a1_1, .slice A1_2 l1_2.length c1_2]] rfl (by (try simp only [List.map_toArray, List.map_cons, List.map_nil]); first | done | rfl | (simp only [List.length_drop, List.length_take]; rfl)) ?_; (with_reducible refine (laws_eqTxn.calls k a0_1 _ _ l0_2 a1_1 _ _ l1_2 false _ ?side1 ?side2 ?side3 ?side4 A9.out).mono ?_); (case side1 => repeat (first | exact (Kd.C_below HR0_2.out HB.out) | (with_reducible refine Kd.C_alloc ?_ _) | (with_reducible refine Kd.C_drewN ?_ _) | (with_reducible refine Kd.C_drew ?_))); (case side2 => exact HC0_2.out); (case side3 => repeat (first | exact (Kd.C_below HR1_2.out HB.out) | (with_reducible refine Kd.C_alloc ?_ _) | (with_reducible refine Kd.C_drewN ?_ _) | (with_reducible refine Kd.C_drew ?_))); (case side4 => exact HC1_2.out); rintro e w22 ⟨rfl, hb⟩; refine ⟨_, rfl, ?_⟩; have n0_ := Aside0.mk (zt (g := zB) (o := .cells #[.bool a0_0, .int .i64 a0_1, .slice A0_2 l0_2.length c0_2] 27 (0, 0)) (by (with_reducible repeat (first | refine zh ?_ _ | refine zj ?_ | refine zg ?_ _)); exact zA.out) hb); have n1_ := Aside0.mk (zt (g := zD) (o := .cells #[.bool a1_0, .int .i64 a1_1, .slice A1_2 l1_2.length c1_2] 27 (0, 0)) (by (with_reducible repeat (first | refine zh ?_ _ | refine zj ?_ | refine zg ?_ _)); exact zC.out) hb); have n2_ := Aside0.mk (zm (by repeat (first | (with_reducible first | exact HB.out | apply zf | apply zc | apply ze | refine zk ?_ zE.out | refine zk ?_ zH.out) | exact HB.out)) hb); clear zA; clear zC; clear HB; have zA := n0_; have zC := n1_; have HB := n2_; clear n0_ n1_ n2_; (try clear hb); (try clear hb2); (try clear hk); (try clear hi)))
   go_ret
   exact ⟨by first | rfl | (simp [errW_none, errW_some] <;> rfl) | (simp [*, errW_none, errW_some] <;> rfl), by repeat (first | (with_reducible first | exact HB.out | apply zf | apply zc | apply ze | refine zk ?_ zE.out | refine zk ?_ zH.out) | exact HB.out)⟩

def laws_eqByteS.l0 : Nat → List Int → List Int → Int → Option (Bool)
 | 0, _, _, _ => none
 | k + 1, x0, x1, x5 => if x5 < (x0.length : Int) then (if 0 ≤ x5 then (if x5 < (x1.length : Int) then (if (rd x0 x5) = (rd x1 x5) then (laws_eqByteS.l0 k x0 x1 (wrap64 (x5 + 1))) else (some false)) else (none)) else (none)) else (some true)
def laws_eqByteS.f (k : Nat) (l0 : List Int) (l1 : List Int) : Option (Bool) := if (l0.length : Int) = (l1.length : Int) then (laws_eqByteS.l0 k l0 l1 0) else (some false)
theorem laws_eqByteS.mono_l : ∀ k, (∀ y0 y1 y2, LeO (laws_eqByteS.l0 k y0 y1 y2) (laws_eqByteS.l0 (k + 1) y0 y1 y2))
 | 0 => fun _ _ _ r h => by simp [laws_eqByteS.l0] at h
 | k + 1 => by
  have ih0 := laws_eqByteS.mono_l k
  ·intro y0 y1 y2
   unfold laws_eqByteS.l0
   repeat' first
   | (with_reducible exact ih0 _ _ _)
   | (with_reducible exact LeO.refl _)
   | (with_reducible exact LeO.none _)
   | (with_reducible refine LeO.ite ?_ ?_)
   | (with_reducible refine LeO.bind ?_ (fun _ => ?_))
   | exact ih0 _ _ _
   | exact LeO.none _
   | refine LeO.ite ?_ ?_
   | refine LeO.bind ?_ (fun _ => ?_)
theorem laws_eqByteS.mono : ∀ a0 a1 k, LeO (laws_eqByteS.f k a0 a1) (laws_eqByteS.f (k + 1) a0 a1) := by
 intro a0 a1 k
 have ih0 := laws_eqByteS.mono_l k
 unfold laws_eqByteS.f
 repeat' first
   | (with_reducible exact ih0 _ _ _)
   | (with_reducible exact LeO.refl _)
   | (with_reducible exact LeO.none _)
   | (with_reducible refine LeO.ite ?_ ?_)
   | (with_reducible refine LeO.bind ?_ (fun _ => ?_))
   | exact ih0 _ _ _
   | exact LeO.none _
   | refine LeO.ite ?_ ?_
   | refine LeO.bind ?_ (fun _ => ?_)
set_option maxHeartbeats 8000000 in
set_option maxRecDepth 100000 in
theorem laws_eqByteS.calls (k : Nat) (A0 : Option Addr) (c0 : Nat) (l0 : List Int) (A1 : Option Addr) (c1 : Nat) (l1 : List Int) (r : Bool) (w : World) (hr0 : Kd.C (Kd.int .u8) w A0 l0.length l0) (hc0 : l0.length ≤ c0) (hr1 : Kd.C (Kd.int .u8) w A1 l1.length l1) (hc1 : l1.length ≤ c1) (h : laws_eqByteS.f k l0 l1 = some r) :
  Calls Tryd.prog 10 #[.slice A0 l0.length c0, .slice A1 l1.length c1] w fun e w' => e = .returned (.bool r) ∧ Drawn0 w w' := by
 have HR0 := Aside0.mk hr0
 have HC0 := Aside0.mk hc0
 clear hr0 hc0
 have HR1 := Aside0.mk hr1
 have HC1 := Aside0.mk hc1
 clear hr1 hc1
 have H : (if (l0.length : Int) = (l1.length : Int) then (laws_eqByteS.l0 k l0 l1 0) else (some false)) = some r := h
 clear h
 by_cases c3 : (l0.length : Int) = (l1.length : Int)
 ·rw [if_pos c3] at H
  have c3b0 : ((l0.length : Int) == (l1.length : Int)) = true := beq_iff_eq.mpr c3
  have c3b1 : ((l0.length : Int) != (l1.length : Int)) = false := bne_eq_false_iff_eq.mpr c3
  have c3b2 : (l0.length == l1.length) = true := by first | simpa using c3 | (simp at c3 ⊢; omega)
  clear c3
  have H' := Aside0.mk H
  clear H
  go_enter Tryd.func10, Tryd.ntmps10
  go_wp2
  repeat (go_quiet (fail); try go_wp2)
  go_loopg [5] k (fun kq v5 w' => ∃ (x5_1 : Int), v5 = .int .i64 x5_1 ∧ Aside0 (laws_eqByteS.l0 kq l0 l1 x5_1 = some r) ∧ Aside0 (kq ≤ k) ∧ Drawn0 w w')
  case atStart => exact ⟨(0), (by first | rfl | (simp; done) | (simp [*]; done)), H', ⟨Nat.le_refl _⟩, by repeat (first | exact Drawn0.refl _ | apply Drawn0.step)⟩
  case round =>
   clear H'
   try clear c1
   try clear p2
   try clear c3
   try clear c3b0
   try clear c3b1
   try clear c3b2
   obtain ⟨x5_1, rfl, HA, HK1, ⟨m1, rfl⟩⟩ := hrel
   cases gk with
   | zero => exact absurd HA.out (by simp [laws_eqByteS.l0])
   | succ k1 =>
    have H := HA.out
    clear HA
    simp only [laws_eqByteS.l0] at H
    by_cases c4 : x5_1 < (l0.length : Int)
    ·rw [if_pos c4] at H
     have c4b0 : decide (x5_1 < (l0.length : Int)) = true := decide_eq_true c4
     clear c4
     by_cases c5 : 0 ≤ x5_1
     ·rw [if_pos c5] at H
      have c5b0 : decide (0 ≤ x5_1) = true := decide_eq_true c5
      clear c5
      by_cases c6 : x5_1 < (l1.length : Int)
      ·rw [if_pos c6] at H
       have c6b0 : decide (x5_1 < (l1.length : Int)) = true := decide_eq_true c6
       clear c6
       by_cases c7 : (rd l0 x5_1) = (rd l1 x5_1)
       ·rw [if_pos c7] at H
        have c7b0 : ((rd l0 x5_1) == (rd l1 x5_1)) = true := beq_iff_eq.mpr c7
        have c7b1 : ((rd l0 x5_1) != (rd l1 x5_1)) = false := bne_eq_false_iff_eq.mpr c7
        clear c7
        have H' := Aside0.mk H
        clear H
        have p212 : 0 ≤ (x5_1 : Int) := of_decide_eq_true (by first | (with_reducible assumption) | assumption)
        have q212 : x5_1 < (l0.length : Int) := of_decide_eq_true (by first | (with_reducible assumption) | assumption)
        obtain ⟨ad212, e212, hx212_0⟩ := Kd.at_int HR0.out x5_1 p212 q212
        cases e212
        replace p212 := eq_true p212
        replace q212 := eq_true q212
        have p213 : 0 ≤ (x5_1 : Int) := of_decide_eq_true (by first | (with_reducible assumption) | assumption)
        have q213 : x5_1 < (l1.length : Int) := of_decide_eq_true (by first | (with_reducible assumption) | assumption)
        obtain ⟨ad213, e213, hx213_0⟩ := Kd.at_int HR1.out x5_1 p213 q213
        cases e213
        replace p213 := eq_true p213
        replace q213 := eq_true q213
        go_wp2
        repeat (go_quiet (fail); try go_wp2)
        go_roundg k1
        case measure => have := HK1.out; omega
        case rel => exact ⟨(wrap64 (x5_1 + 1)), (by first | rfl | (simp; done) | (simp [*]; done)), H', ⟨by have := HK1.out; omega⟩, by repeat (first | exact Drawn0.refl _ | apply Drawn0.step)⟩
       ·rw [if_neg c7] at H
        have c7b0 : ((rd l0 x5_1) == (rd l1 x5_1)) = false := beq_eq_false_iff_ne.mpr c7
        have c7b1 : ((rd l0 x5_1) != (rd l1 x5_1)) = true := bne_iff_ne.mpr c7
        obtain rfl := Option.some.inj H
        have p212 : 0 ≤ (x5_1 : Int) := of_decide_eq_true (by first | (with_reducible assumption) | assumption)
        have q212 : x5_1 < (l0.length : Int) := of_decide_eq_true (by first | (with_reducible assumption) | assumption)
        obtain ⟨ad212, e212, hx212_0⟩ := Kd.at_int HR0.out x5_1 p212 q212
        cases e212
        replace p212 := eq_true p212
        replace q212 := eq_true q212
        have p213 : 0 ≤ (x5_1 : Int) := of_decide_eq_true (by first | (with_reducible assumption) | assumption)
        have q213 : x5_1 < (l1.length : Int) := of_decide_eq_true (by first | (with_reducible assumption) | assumption)
        obtain ⟨ad213, e213, hx213_0⟩ := Kd.at_int HR1.out x5_1 p213 q213
        cases e213
        replace p213 := eq_true p213
        replace q213 := eq_true q213
        go_wp2
        repeat (go_quiet (fail); try go_wp2)
        go_ret
        exact ⟨by first | rfl | (simp; done) | (simp [*]; done), by repeat (first | exact Drawn0.refl _ | apply Drawn0.step)⟩
      ·rw [if_neg c6] at H
       exact absurd H (by simp)
     ·rw [if_neg c5] at H
      exact absurd H (by simp)
    ·rw [if_neg c4] at H
     have c4b0 : decide (x5_1 < (l0.length : Int)) = false := decide_eq_false c4
     clear c4
     obtain rfl := Option.some.inj H
     go_wp2
     repeat (go_quiet (fail); try go_wp2)
     go_ret
     exact ⟨by first | rfl | (simp; done) | (simp [*]; done), by repeat (first | exact Drawn0.refl _ | apply Drawn0.step)⟩
 ·rw [if_neg c3] at H
  have c3b0 : ((l0.length : Int) == (l1.length : Int)) = false := beq_eq_false_iff_ne.mpr c3
  have c3b1 : ((l0.length : Int) != (l1.length : Int)) = true := bne_iff_ne.mpr c3
  have c3b2 : (l0.length == l1.length) = false := by first | simpa using c3 | (simp at c3 ⊢; omega)
  obtain rfl := Option.some.inj H
  go_enter Tryd.func10, Tryd.ntmps10
  go_wp2
  repeat (go_quiet (fail); try go_wp2)
  go_ret
  exact ⟨by first | rfl | (simp; done) | (simp [*]; done), by repeat (first | exact Drawn0.refl _ | apply Drawn0.step)⟩

end Go.Proofs.YtejecjjimggjeaaDoor.GFnExactDecodeTxn
