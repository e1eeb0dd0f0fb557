/- Written by give.py, a program of this session, that runs the kit's print and lays contracts proved by hand beside it. -/
import Derived.Test.YtjoafknckmoojaaDoorGFnExactDecodeTreex0
namespace Go.Proofs.YtjoafknckmoojaaDoor.GFnExactDecodeTree
open Go.RowKit Go.Proofs.YtjoafknckmoojaaDoorW.PrintWords Go.Proofs.YtjoafknckmoojaaDoorW.PrintLast Go.Proofs.YtjoafknckmoojaaDoorW.PrintMore
attribute [local go_sem] max2_int min2_int max_two min_two max_three min_three max_four min_four
attribute [local go_sem high] Go.Proofs.YtjoafknckmoojaaDoorH.str_leq Go.Proofs.YtjoafknckmoojaaDoorH.str_geq Go.Proofs.YtjoafknckmoojaaDoorH.str_gtr
set_option linter.unusedVariables false
set_option linter.unusedSimpArgs false

def laws_eqNode.f (a0_0 : ByteArray) (a0_1 : ByteArray) (a0_2 : Int) (a0_3 : Int) (a0_4 : Int) (a0_5 : Int) (a0_6 : Int) (a1_0 : ByteArray) (a1_1 : ByteArray) (a1_2 : Int) (a1_3 : Int) (a1_4 : Int) (a1_5 : Int) (a1_6 : Int) : Option (Bool) := if a0_0.toList = a1_0.toList then (if a0_1.toList = a1_1.toList then (if a0_2 = a1_2 then (if a0_3 = a1_3 then (if a0_4 = a1_4 then (if a0_5 = a1_5 then (if a0_6 = a1_6 then (some true) else (some false)) else (some false)) else (some false)) else (some false)) else (some false)) else (some false)) else (some false)
set_option maxHeartbeats 8000000 in
set_option maxRecDepth 100000 in
theorem laws_eqNode.calls (a0_0 : ByteArray) (a0_1 : ByteArray) (a0_2 : Int) (a0_3 : Int) (a0_4 : Int) (a0_5 : Int) (a0_6 : Int) (a1_0 : ByteArray) (a1_1 : ByteArray) (a1_2 : Int) (a1_3 : Int) (a1_4 : Int) (a1_5 : Int) (a1_6 : Int) (r : Bool) (w : World) (h : laws_eqNode.f a0_0 a0_1 a0_2 a0_3 a0_4 a0_5 a0_6 a1_0 a1_1 a1_2 a1_3 a1_4 a1_5 a1_6 = some r) :
  Calls Tryd.prog 162 #[.agg #[.string a0_0, .string a0_1, .int .i64 a0_2, .int .i64 a0_3, .int .i64 a0_4, .int .i64 a0_5, .int .i64 a0_6], .agg #[.string a1_0, .string a1_1, .int .i64 a1_2, .int .i64 a1_3, .int .i64 a1_4, .int .i64 a1_5, .int .i64 a1_6]] w fun e w' => e = .returned (.bool r) ∧ Below w.heap.size w w' := by
 have hu92 := Tryd.underlying92
 have HB := Aside0.mk (Below.refl w.heap.size w)
 have H : (if a0_0.toList = a1_0.toList then (if a0_1.toList = a1_1.toList then (if a0_2 = a1_2 then (if a0_3 = a1_3 then (if a0_4 = a1_4 then (if a0_5 = a1_5 then (if a0_6 = a1_6 then (some true) else (some false)) else (some false)) else (some false)) else (some false)) else (some false)) else (some false)) else (some false)) = some r := h
 clear h
 by_cases c3 : a0_0.toList = a1_0.toList
 ·rw [if_pos c3] at H
  have c3b0 : (a0_0.toList == a1_0.toList) = true := beq_iff_eq.mpr c3
  have c3b1 : (a0_0.toList != a1_0.toList) = false := bne_eq_false_iff_eq.mpr c3
  clear c3
  by_cases c4 : a0_1.toList = a1_1.toList
  ·rw [if_pos c4] at H
   have c4b0 : (a0_1.toList == a1_1.toList) = true := beq_iff_eq.mpr c4
   have c4b1 : (a0_1.toList != a1_1.toList) = false := bne_eq_false_iff_eq.mpr c4
   clear c4
   by_cases c5 : a0_2 = a1_2
   ·rw [if_pos c5] at H
    have c5b0 : (a0_2 == a1_2) = true := beq_iff_eq.mpr c5
    have c5b1 : (a0_2 != a1_2) = false := bne_eq_false_iff_eq.mpr c5
    clear c5
    by_cases c6 : a0_3 = a1_3
    ·rw [if_pos c6] at H
     have c6b0 : (a0_3 == a1_3) = true := beq_iff_eq.mpr c6
     have c6b1 : (a0_3 != a1_3) = false := bne_eq_false_iff_eq.mpr c6
     clear c6
     by_cases c7 : a0_4 = a1_4
     ·rw [if_pos c7] at H
      have c7b0 : (a0_4 == a1_4) = true := beq_iff_eq.mpr c7
      have c7b1 : (a0_4 != a1_4) = false := bne_eq_false_iff_eq.mpr c7
      clear c7
      by_cases c8 : a0_5 = a1_5
      ·rw [if_pos c8] at H
       have c8b0 : (a0_5 == a1_5) = true := beq_iff_eq.mpr c8
       have c8b1 : (a0_5 != a1_5) = false := bne_eq_false_iff_eq.mpr c8
       clear c8
       by_cases c9 : a0_6 = a1_6
       ·rw [if_pos c9] at H
        have c9b0 : (a0_6 == a1_6) = true := beq_iff_eq.mpr c9
        have c9b1 : (a0_6 != a1_6) = false := bne_eq_false_iff_eq.mpr c9
        clear c9
        obtain rfl := Option.some.inj H
        go_enter Tryd.func162, Tryd.ntmps162
        go_wp2_with (first | ((with_reducible refine zv (N := 2) rfl ?_); refine zw ?hg (N := 2) ?hd (cs := #[.string a0_0, .string a0_1, .int .i64 a0_2, .int .i64 a0_3, .int .i64 a0_4, .int .i64 a0_5, .int .i64 a0_6]) (t := 92) ?hr ?_; (case hd => rfl); (case hg => rfl); (case hr => first | (go_simp; done) | (go_simp; rfl)); intro zC hg w10 hbox hb; have n0_ := Aside0.mk (zl (by repeat (first | (with_reducible first | exact HB.out | apply ze | apply zc | apply zd) | exact HB.out)) hb); have n1_ := Aside0.mk (hbox); have n2_ := Aside0.mk ((by rw [hg]; exact (zm (by repeat (first | (with_reducible first | exact HB.out | apply ze | apply zc | apply zd) | exact HB.out))) : w.heap.size ≤ zC)); have n3_ := Aside0.mk ((by rw [hg]; exact (zm (by repeat (first | (with_reducible first | exact HB.out | apply ze | apply zc | apply zd) | exact HB.out))) : w.heap.size ≤ zC)); clear HB; have HB := n0_; have zB := n1_; have GW189 := n2_; have zF := n3_; clear n0_ n1_ n2_ n3_; clear hb hbox hg) | ((with_reducible refine zv (N := 3) rfl ?_); refine zw ?hg (N := 3) ?hd (cs := #[.string a1_0, .string a1_1, .int .i64 a1_2, .int .i64 a1_3, .int .i64 a1_4, .int .i64 a1_5, .int .i64 a1_6]) (t := 92) ?hr ?_; (case hd => rfl); (case hg => rfl); (case hr => first | (go_simp; done) | (go_simp; rfl)); intro zE hg w11 hbox hb; have n0_ := Aside0.mk (zt (g := zC) (o := .cells #[.string a0_0, .string a0_1, .int .i64 a0_2, .int .i64 a0_3, .int .i64 a0_4, .int .i64 a0_5, .int .i64 a0_6] 92 (0, 0)) (by (with_reducible repeat (first | refine zi ?_ _ | refine zk ?_ | refine zh ?_ _)); exact zB.out) hb); have n1_ := Aside0.mk (zl (by repeat (first | (with_reducible first | exact HB.out | apply ze | apply zc | apply zd | refine zj ?_ zF.out) | exact HB.out)) hb); have n2_ := Aside0.mk (hbox); have n3_ := Aside0.mk ((by rw [hg]; exact (zm (by repeat (first | (with_reducible first | exact HB.out | apply ze | apply zc | apply zd | refine zj ?_ zF.out) | exact HB.out))) : w.heap.size ≤ zE)); have n4_ := Aside0.mk ((by rw [hg]; exact (zm (by repeat (first | (with_reducible first | exact HB.out | apply ze | apply zc | apply zd | refine zj ?_ zF.out) | exact HB.out))) : w.heap.size ≤ zE)); have n5_ := Aside0.mk ((by rw [hg]; exact Nat.ne_of_lt (zy (g := zC) (o := .cells #[.string a0_0, .string a0_1, .int .i64 a0_2, .int .i64 a0_3, .int .i64 a0_4, .int .i64 a0_5, .int .i64 a0_6] 92 (0, 0)) (by (with_reducible repeat (first | refine zi ?_ _ | refine zk ?_ | refine zh ?_ _)); exact zB.out)) : zC ≠ zE)); have n6_ := Aside0.mk ((by rw [hg]; exact Nat.ne_of_gt (zy (g := zC) (o := .cells #[.string a0_0, .string a0_1, .int .i64 a0_2, .int .i64 a0_3, .int .i64 a0_4, .int .i64 a0_5, .int .i64 a0_6] 92 (0, 0)) (by (with_reducible repeat (first | refine zi ?_ _ | refine zk ?_ | refine zh ?_ _)); exact zB.out)) : zE ≠ zC)); clear zB; clear HB; have zB := n0_; have HB := n1_; have zD := n2_; have GW190 := n3_; have zI := n4_; have zG := n5_; have zH := n6_; clear n0_ n1_ n2_ n3_ n4_ n5_ n6_; clear hb hbox hg; have zZe := zG.out; have zaf := zH.out; have zJ : w11.cell? ⟨zC, 0, none⟩ = some (.string a0_0) := (zg zB.out 0).trans rfl; have zK : w11.cell? ⟨zC, 1, none⟩ = some (.string a0_1) := (zg zB.out 1).trans rfl; have zL : w11.cell? ⟨zC, 2, none⟩ = some (.int .i64 a0_2) := (zg zB.out 2).trans rfl; have zM : w11.cell? ⟨zC, 3, none⟩ = some (.int .i64 a0_3) := (zg zB.out 3).trans rfl; have zN : w11.cell? ⟨zC, 4, none⟩ = some (.int .i64 a0_4) := (zg zB.out 4).trans rfl; have zO : w11.cell? ⟨zC, 5, none⟩ = some (.int .i64 a0_5) := (zg zB.out 5).trans rfl; have zP : w11.cell? ⟨zC, 6, none⟩ = some (.int .i64 a0_6) := (zg zB.out 6).trans rfl; have zQ := zf zB.out 0; have zR := zf zB.out 1; have zS := zf zB.out 2; have zT := zf zB.out 3; have zU := zf zB.out 4; have zV := zf zB.out 5; have zW := zf zB.out 6; have zX : w11.cell? ⟨zE, 0, none⟩ = some (.string a1_0) := (zg zD.out 0).trans rfl; have zY : w11.cell? ⟨zE, 1, none⟩ = some (.string a1_1) := (zg zD.out 1).trans rfl; have zZ : w11.cell? ⟨zE, 2, none⟩ = some (.int .i64 a1_2) := (zg zD.out 2).trans rfl; have zab : w11.cell? ⟨zE, 3, none⟩ = some (.int .i64 a1_3) := (zg zD.out 3).trans rfl; have zbb : w11.cell? ⟨zE, 4, none⟩ = some (.int .i64 a1_4) := (zg zD.out 4).trans rfl; have zcb : w11.cell? ⟨zE, 5, none⟩ = some (.int .i64 a1_5) := (zg zD.out 5).trans rfl; have zdb : w11.cell? ⟨zE, 6, none⟩ = some (.int .i64 a1_6) := (zg zD.out 6).trans rfl; have zeb := zf zD.out 0; have zfb := zf zD.out 1; have zgb := zf zD.out 2; have zhb := zf zD.out 3; have zib := zf zD.out 4; have zjb := zf zD.out 5; have zkb := zf zD.out 6))
        go_ret
        exact ⟨by first | rfl | (simp [errW_none, errW_some] <;> rfl) | (simp [*, errW_none, errW_some] <;> rfl), by repeat (first | (with_reducible first | exact HB.out | apply ze | apply zc | apply zd | refine zj ?_ zF.out | refine zj ?_ zI.out) | exact HB.out)⟩
       ·rw [if_neg c9] at H
        have c9b0 : (a0_6 == a1_6) = false := beq_eq_false_iff_ne.mpr c9
        have c9b1 : (a0_6 != a1_6) = true := bne_iff_ne.mpr c9
        obtain rfl := Option.some.inj H
        go_enter Tryd.func162, Tryd.ntmps162
        go_wp2_with (first | ((with_reducible refine zv (N := 2) rfl ?_); refine zw ?hg (N := 2) ?hd (cs := #[.string a0_0, .string a0_1, .int .i64 a0_2, .int .i64 a0_3, .int .i64 a0_4, .int .i64 a0_5, .int .i64 a0_6]) (t := 92) ?hr ?_; (case hd => rfl); (case hg => rfl); (case hr => first | (go_simp; done) | (go_simp; rfl)); intro zC hg w15 hbox hb; have n0_ := Aside0.mk (zl (by repeat (first | (with_reducible first | exact HB.out | apply ze | apply zc | apply zd) | exact HB.out)) hb); have n1_ := Aside0.mk (hbox); have n2_ := Aside0.mk ((by rw [hg]; exact (zm (by repeat (first | (with_reducible first | exact HB.out | apply ze | apply zc | apply zd) | exact HB.out))) : w.heap.size ≤ zC)); have n3_ := Aside0.mk ((by rw [hg]; exact (zm (by repeat (first | (with_reducible first | exact HB.out | apply ze | apply zc | apply zd) | exact HB.out))) : w.heap.size ≤ zC)); clear HB; have HB := n0_; have zB := n1_; have GW189 := n2_; have zF := n3_; clear n0_ n1_ n2_ n3_; clear hb hbox hg) | ((with_reducible refine zv (N := 3) rfl ?_); refine zw ?hg (N := 3) ?hd (cs := #[.string a1_0, .string a1_1, .int .i64 a1_2, .int .i64 a1_3, .int .i64 a1_4, .int .i64 a1_5, .int .i64 a1_6]) (t := 92) ?hr ?_; (case hd => rfl); (case hg => rfl); (case hr => first | (go_simp; done) | (go_simp; rfl)); intro zE hg w16 hbox hb; have n0_ := Aside0.mk (zt (g := zC) (o := .cells #[.string a0_0, .string a0_1, .int .i64 a0_2, .int .i64 a0_3, .int .i64 a0_4, .int .i64 a0_5, .int .i64 a0_6] 92 (0, 0)) (by (with_reducible repeat (first | refine zi ?_ _ | refine zk ?_ | refine zh ?_ _)); exact zB.out) hb); have n1_ := Aside0.mk (zl (by repeat (first | (with_reducible first | exact HB.out | apply ze | apply zc | apply zd | refine zj ?_ zF.out) | exact HB.out)) hb); have n2_ := Aside0.mk (hbox); have n3_ := Aside0.mk ((by rw [hg]; exact (zm (by repeat (first | (with_reducible first | exact HB.out | apply ze | apply zc | apply zd | refine zj ?_ zF.out) | exact HB.out))) : w.heap.size ≤ zE)); have n4_ := Aside0.mk ((by rw [hg]; exact (zm (by repeat (first | (with_reducible first | exact HB.out | apply ze | apply zc | apply zd | refine zj ?_ zF.out) | exact HB.out))) : w.heap.size ≤ zE)); have n5_ := Aside0.mk ((by rw [hg]; exact Nat.ne_of_lt (zy (g := zC) (o := .cells #[.string a0_0, .string a0_1, .int .i64 a0_2, .int .i64 a0_3, .int .i64 a0_4, .int .i64 a0_5, .int .i64 a0_6] 92 (0, 0)) (by (with_reducible repeat (first | refine zi ?_ _ | refine zk ?_ | refine zh ?_ _)); exact zB.out)) : zC ≠ zE)); have n6_ := Aside0.mk ((by rw [hg]; exact Nat.ne_of_gt (zy (g := zC) (o := .cells #[.string a0_0, .string a0_1, .int .i64 a0_2, .int .i64 a0_3, .int .i64 a0_4, .int .i64 a0_5, .int .i64 a0_6] 92 (0, 0)) (by (with_reducible repeat (first | refine zi ?_ _ | refine zk ?_ | refine zh ?_ _)); exact zB.out)) : zE ≠ zC)); clear zB; clear HB; have zB := n0_; have HB := n1_; have zD := n2_; have GW190 := n3_; have zI := n4_; have zG := n5_; have zH := n6_; clear n0_ n1_ n2_ n3_ n4_ n5_ n6_; clear hb hbox hg; have zbf := zG.out; have zcf := zH.out; have zlb : w16.cell? ⟨zC, 0, none⟩ = some (.string a0_0) := (zg zB.out 0).trans rfl; have zmb : w16.cell? ⟨zC, 1, none⟩ = some (.string a0_1) := (zg zB.out 1).trans rfl; have znb : w16.cell? ⟨zC, 2, none⟩ = some (.int .i64 a0_2) := (zg zB.out 2).trans rfl; have zob : w16.cell? ⟨zC, 3, none⟩ = some (.int .i64 a0_3) := (zg zB.out 3).trans rfl; have zpb : w16.cell? ⟨zC, 4, none⟩ = some (.int .i64 a0_4) := (zg zB.out 4).trans rfl; have zqb : w16.cell? ⟨zC, 5, none⟩ = some (.int .i64 a0_5) := (zg zB.out 5).trans rfl; have zrb : w16.cell? ⟨zC, 6, none⟩ = some (.int .i64 a0_6) := (zg zB.out 6).trans rfl; have zsb := zf zB.out 0; have ztb := zf zB.out 1; have zub := zf zB.out 2; have zvb := zf zB.out 3; have zwb := zf zB.out 4; have zxb := zf zB.out 5; have zyb := zf zB.out 6; have zzb : w16.cell? ⟨zE, 0, none⟩ = some (.string a1_0) := (zg zD.out 0).trans rfl; have zAb : w16.cell? ⟨zE, 1, none⟩ = some (.string a1_1) := (zg zD.out 1).trans rfl; have zBb : w16.cell? ⟨zE, 2, none⟩ = some (.int .i64 a1_2) := (zg zD.out 2).trans rfl; have zCb : w16.cell? ⟨zE, 3, none⟩ = some (.int .i64 a1_3) := (zg zD.out 3).trans rfl; have zDb : w16.cell? ⟨zE, 4, none⟩ = some (.int .i64 a1_4) := (zg zD.out 4).trans rfl; have zEb : w16.cell? ⟨zE, 5, none⟩ = some (.int .i64 a1_5) := (zg zD.out 5).trans rfl; have zFb : w16.cell? ⟨zE, 6, none⟩ = some (.int .i64 a1_6) := (zg zD.out 6).trans rfl; have zGb := zf zD.out 0; have zHb := zf zD.out 1; have zIb := zf zD.out 2; have zJb := zf zD.out 3; have zKb := zf zD.out 4; have zLb := zf zD.out 5; have zMb := zf zD.out 6))
        go_ret
        exact ⟨by first | rfl | (simp [errW_none, errW_some] <;> rfl) | (simp [*, errW_none, errW_some] <;> rfl), by repeat (first | (with_reducible first | exact HB.out | apply ze | apply zc | apply zd | refine zj ?_ zF.out | refine zj ?_ zI.out) | exact HB.out)⟩
      ·rw [if_neg c8] at H
       have c8b0 : (a0_5 == a1_5) = false := beq_eq_false_iff_ne.mpr c8
       have c8b1 : (a0_5 != a1_5) = true := bne_iff_ne.mpr c8
       obtain rfl := Option.some.inj H
       go_enter Tryd.func162, Tryd.ntmps162
       go_wp2_with (first | ((with_reducible refine zv (N := 2) rfl ?_); refine zw ?hg (N := 2) ?hd (cs := #[.string a0_0, .string a0_1, .int .i64 a0_2, .int .i64 a0_3, .int .i64 a0_4, .int .i64 a0_5, .int .i64 a0_6]) (t := 92) ?hr ?_; (case hd => rfl); (case hg => rfl); (case hr => first | (go_simp; done) | (go_simp; rfl)); intro zC hg w20 hbox hb; have n0_ := Aside0.mk (zl (by repeat (first | (with_reducible first | exact HB.out | apply ze | apply zc | apply zd) | exact HB.out)) hb); have n1_ := Aside0.mk (hbox); have n2_ := Aside0.mk ((by rw [hg]; exact (zm (by repeat (first | (with_reducible first | exact HB.out | apply ze | apply zc | apply zd) | exact HB.out))) : w.heap.size ≤ zC)); have n3_ := Aside0.mk ((by rw [hg]; exact (zm (by repeat (first | (with_reducible first | exact HB.out | apply ze | apply zc | apply zd) | exact HB.out))) : w.heap.size ≤ zC)); clear HB; have HB := n0_; have zB := n1_; have GW189 := n2_; have zF := n3_; clear n0_ n1_ n2_ n3_; clear hb hbox hg) | ((with_reducible refine zv (N := 3) rfl ?_); refine zw ?hg (N := 3) ?hd (cs := #[.string a1_0, .string a1_1, .int .i64 a1_2, .int .i64 a1_3, .int .i64 a1_4, .int .i64 a1_5, .int .i64 a1_6]) (t := 92) ?hr ?_; (case hd => rfl); (case hg => rfl); (case hr => first | (go_simp; done) | (go_simp; rfl)); intro zE hg w21 hbox hb; have n0_ := Aside0.mk (zt (g := zC) (o := .cells #[.string a0_0, .string a0_1, .int .i64 a0_2, .int .i64 a0_3, .int .i64 a0_4, .int .i64 a0_5, .int .i64 a0_6] 92 (0, 0)) (by (with_reducible repeat (first | refine zi ?_ _ | refine zk ?_ | refine zh ?_ _)); exact zB.out) hb); have n1_ := Aside0.mk (zl (by repeat (first | (with_reducible first | exact HB.out | apply ze | apply zc | apply zd | refine zj ?_ zF.out) | exact HB.out)) hb); have n2_ := Aside0.mk (hbox); have n3_ := Aside0.mk ((by rw [hg]; exact (zm (by repeat (first | (with_reducible first | exact HB.out | apply ze | apply zc | apply zd | refine zj ?_ zF.out) | exact HB.out))) : w.heap.size ≤ zE)); have n4_ := Aside0.mk ((by rw [hg]; exact (zm (by repeat (first | (with_reducible first | exact HB.out | apply ze | apply zc | apply zd | refine zj ?_ zF.out) | exact HB.out))) : w.heap.size ≤ zE)); have n5_ := Aside0.mk ((by rw [hg]; exact Nat.ne_of_lt (zy (g := zC) (o := .cells #[.string a0_0, .string a0_1, .int .i64 a0_2, .int .i64 a0_3, .int .i64 a0_4, .int .i64 a0_5, .int .i64 a0_6] 92 (0, 0)) (by (with_reducible repeat (first | refine zi ?_ _ | refine zk ?_ | refine zh ?_ _)); exact zB.out)) : zC ≠ zE)); have n6_ := Aside0.mk ((by rw [hg]; exact Nat.ne_of_gt (zy (g := zC) (o := .cells #[.string a0_0, .string a0_1, .int .i64 a0_2, .int .i64 a0_3, .int .i64 a0_4, .int .i64 a0_5, .int .i64 a0_6] 92 (0, 0)) (by (with_reducible repeat (first | refine zi ?_ _ | refine zk ?_ | refine zh ?_ _)); exact zB.out)) : zE ≠ zC)); clear zB; clear HB; have zB := n0_; have HB := n1_; have zD := n2_; have GW190 := n3_; have zI := n4_; have zG := n5_; have zH := n6_; clear n0_ n1_ n2_ n3_ n4_ n5_ n6_; clear hb hbox hg; have zdf := zG.out; have zef := zH.out; have zNb : w21.cell? ⟨zC, 0, none⟩ = some (.string a0_0) := (zg zB.out 0).trans rfl; have zOb : w21.cell? ⟨zC, 1, none⟩ = some (.string a0_1) := (zg zB.out 1).trans rfl; have zPb : w21.cell? ⟨zC, 2, none⟩ = some (.int .i64 a0_2) := (zg zB.out 2).trans rfl; have zQb : w21.cell? ⟨zC, 3, none⟩ = some (.int .i64 a0_3) := (zg zB.out 3).trans rfl; have zRb : w21.cell? ⟨zC, 4, none⟩ = some (.int .i64 a0_4) := (zg zB.out 4).trans rfl; have zSb : w21.cell? ⟨zC, 5, none⟩ = some (.int .i64 a0_5) := (zg zB.out 5).trans rfl; have zTb : w21.cell? ⟨zC, 6, none⟩ = some (.int .i64 a0_6) := (zg zB.out 6).trans rfl; have zUb := zf zB.out 0; have zVb := zf zB.out 1; have zWb := zf zB.out 2; have zXb := zf zB.out 3; have zYb := zf zB.out 4; have zZb := zf zB.out 5; have zac := zf zB.out 6; have zbc : w21.cell? ⟨zE, 0, none⟩ = some (.string a1_0) := (zg zD.out 0).trans rfl; have zcc : w21.cell? ⟨zE, 1, none⟩ = some (.string a1_1) := (zg zD.out 1).trans rfl; have zdc : w21.cell? ⟨zE, 2, none⟩ = some (.int .i64 a1_2) := (zg zD.out 2).trans rfl; have zec : w21.cell? ⟨zE, 3, none⟩ = some (.int .i64 a1_3) := (zg zD.out 3).trans rfl; have zfc : w21.cell? ⟨zE, 4, none⟩ = some (.int .i64 a1_4) := (zg zD.out 4).trans rfl; have zgc : w21.cell? ⟨zE, 5, none⟩ = some (.int .i64 a1_5) := (zg zD.out 5).trans rfl; have zhc : w21.cell? ⟨zE, 6, none⟩ = some (.int .i64 a1_6) := (zg zD.out 6).trans rfl; have zic := zf zD.out 0; have zjc := zf zD.out 1; have zkc := zf zD.out 2; have zlc := zf zD.out 3; have zmc := zf zD.out 4; have znc := zf zD.out 5; have zoc := zf zD.out 6))
       go_ret
       exact ⟨by first | rfl | (simp [errW_none, errW_some] <;> rfl) | (simp [*, errW_none, errW_some] <;> rfl), by repeat (first | (with_reducible first | exact HB.out | apply ze | apply zc | apply zd | refine zj ?_ zF.out | refine zj ?_ zI.out) | exact HB.out)⟩
     ·rw [if_neg c7] at H
      have c7b0 : (a0_4 == a1_4) = false := beq_eq_false_iff_ne.mpr c7
      have c7b1 : (a0_4 != a1_4) = true := bne_iff_ne.mpr c7
      obtain rfl := Option.some.inj H
      go_enter Tryd.func162, Tryd.ntmps162
      go_wp2_with (first | ((with_reducible refine zv (N := 2) rfl ?_); refine zw ?hg (N := 2) ?hd (cs := #[.string a0_0, .string a0_1, .int .i64 a0_2, .int .i64 a0_3, .int .i64 a0_4, .int .i64 a0_5, .int .i64 a0_6]) (t := 92) ?hr ?_; (case hd => rfl); (case hg => rfl); (case hr => first | (go_simp; done) | (go_simp; rfl)); intro zC hg w25 hbox hb; have n0_ := Aside0.mk (zl (by repeat (first | (with_reducible first | exact HB.out | apply ze | apply zc | apply zd) | exact HB.out)) hb); have n1_ := Aside0.mk (hbox); have n2_ := Aside0.mk ((by rw [hg]; exact (zm (by repeat (first | (with_reducible first | exact HB.out | apply ze | apply zc | apply zd) | exact HB.out))) : w.heap.size ≤ zC)); have n3_ := Aside0.mk ((by rw [hg]; exact (zm (by repeat (first | (with_reducible first | exact HB.out | apply ze | apply zc | apply zd) | exact HB.out))) : w.heap.size ≤ zC)); clear HB; have HB := n0_; have zB := n1_; have GW189 := n2_; have zF := n3_; clear n0_ n1_ n2_ n3_; clear hb hbox hg) | ((with_reducible refine zv (N := 3) rfl ?_); refine zw ?hg (N := 3) ?hd (cs := #[.string a1_0, .string a1_1, .int .i64 a1_2, .int .i64 a1_3, .int .i64 a1_4, .int .i64 a1_5, .int .i64 a1_6]) (t := 92) ?hr ?_; (case hd => rfl); (case hg => rfl); (case hr => first | (go_simp; done) | (go_simp; rfl)); intro zE hg w26 hbox hb; have n0_ := Aside0.mk (zt (g := zC) (o := .cells #[.string a0_0, .string a0_1, .int .i64 a0_2, .int .i64 a0_3, .int .i64 a0_4, .int .i64 a0_5, .int .i64 a0_6] 92 (0, 0)) (by (with_reducible repeat (first | refine zi ?_ _ | refine zk ?_ | refine zh ?_ _)); exact zB.out) hb); have n1_ := Aside0.mk (zl (by repeat (first | (with_reducible first | exact HB.out | apply ze | apply zc | apply zd | refine zj ?_ zF.out) | exact HB.out)) hb); have n2_ := Aside0.mk (hbox); have n3_ := Aside0.mk ((by rw [hg]; exact (zm (by repeat (first | (with_reducible first | exact HB.out | apply ze | apply zc | apply zd | refine zj ?_ zF.out) | exact HB.out))) : w.heap.size ≤ zE)); have n4_ := Aside0.mk ((by rw [hg]; exact (zm (by repeat (first | (with_reducible first | exact HB.out | apply ze | apply zc | apply zd | refine zj ?_ zF.out) | exact HB.out))) : w.heap.size ≤ zE)); have n5_ := Aside0.mk ((by rw [hg]; exact Nat.ne_of_lt (zy (g := zC) (o := .cells #[.string a0_0, .string a0_1, .int .i64 a0_2, .int .i64 a0_3, .int .i64 a0_4, .int .i64 a0_5, .int .i64 a0_6] 92 (0, 0)) (by (with_reducible repeat (first | refine zi ?_ _ | refine zk ?_ | refine zh ?_ _)); exact zB.out)) : zC ≠ zE)); have n6_ := Aside0.mk ((by rw [hg]; exact Nat.ne_of_gt (zy (g := zC) (o := .cells #[.string a0_0, .string a0_1, .int .i64 a0_2, .int .i64 a0_3, .int .i64 a0_4, .int .i64 a0_5, .int .i64 a0_6] 92 (0, 0)) (by (with_reducible repeat (first | refine zi ?_ _ | refine zk ?_ | refine zh ?_ _)); exact zB.out)) : zE ≠ zC)); clear zB; clear HB; have zB := n0_; have HB := n1_; have zD := n2_; have GW190 := n3_; have zI := n4_; have zG := n5_; have zH := n6_; clear n0_ n1_ n2_ n3_ n4_ n5_ n6_; clear hb hbox hg; have zff := zG.out; have zgf := zH.out; have zpc : w26.cell? ⟨zC, 0, none⟩ = some (.string a0_0) := (zg zB.out 0).trans rfl; have zqc : w26.cell? ⟨zC, 1, none⟩ = some (.string a0_1) := (zg zB.out 1).trans rfl; have zrc : w26.cell? ⟨zC, 2, none⟩ = some (.int .i64 a0_2) := (zg zB.out 2).trans rfl; have zsc : w26.cell? ⟨zC, 3, none⟩ = some (.int .i64 a0_3) := (zg zB.out 3).trans rfl; have ztc : w26.cell? ⟨zC, 4, none⟩ = some (.int .i64 a0_4) := (zg zB.out 4).trans rfl; have zuc : w26.cell? ⟨zC, 5, none⟩ = some (.int .i64 a0_5) := (zg zB.out 5).trans rfl; have zvc : w26.cell? ⟨zC, 6, none⟩ = some (.int .i64 a0_6) := (zg zB.out 6).trans rfl; have zwc := zf zB.out 0; have zxc := zf zB.out 1; have zyc := zf zB.out 2; have zzc := zf zB.out 3; have zAc := zf zB.out 4; have zBc := zf zB.out 5; have zCc := zf zB.out 6; have zDc : w26.cell? ⟨zE, 0, none⟩ = some (.string a1_0) := (zg zD.out 0).trans rfl; have zEc : w26.cell? ⟨zE, 1, none⟩ = some (.string a1_1) := (zg zD.out 1).trans rfl; have zFc : w26.cell? ⟨zE, 2, none⟩ = some (.int .i64 a1_2) := (zg zD.out 2).trans rfl; have zGc : w26.cell? ⟨zE, 3, none⟩ = some (.int .i64 a1_3) := (zg zD.out 3).trans rfl; have zHc : w26.cell? ⟨zE, 4, none⟩ = some (.int .i64 a1_4) := (zg zD.out 4).trans rfl; have zIc : w26.cell? ⟨zE, 5, none⟩ = some (.int .i64 a1_5) := (zg zD.out 5).trans rfl; have zJc : w26.cell? ⟨zE, 6, none⟩ = some (.int .i64 a1_6) := (zg zD.out 6).trans rfl; have zKc := zf zD.out 0; have zLc := zf zD.out 1; have zMc := zf zD.out 2; have zNc := zf zD.out 3; have zOc := zf zD.out 4; have zPc := zf zD.out 5; have zQc := zf zD.out 6))
      go_ret
      exact ⟨by first | rfl | (simp [errW_none, errW_some] <;> rfl) | (simp [*, errW_none, errW_some] <;> rfl), by repeat (first | (with_reducible first | exact HB.out | apply ze | apply zc | apply zd | refine zj ?_ zF.out | refine zj ?_ zI.out) | exact HB.out)⟩
    ·rw [if_neg c6] at H
     have c6b0 : (a0_3 == a1_3) = false := beq_eq_false_iff_ne.mpr c6
     have c6b1 : (a0_3 != a1_3) = true := bne_iff_ne.mpr c6
     obtain rfl := Option.some.inj H
     go_enter Tryd.func162, Tryd.ntmps162
     go_wp2_with (first | ((with_reducible refine zv (N := 2) rfl ?_); refine zw ?hg (N := 2) ?hd (cs := #[.string a0_0, .string a0_1, .int .i64 a0_2, .int .i64 a0_3, .int .i64 a0_4, .int .i64 a0_5, .int .i64 a0_6]) (t := 92) ?hr ?_; (case hd => rfl); (case hg => rfl); (case hr => first | (go_simp; done) | (go_simp; rfl)); intro zC hg w30 hbox hb; have n0_ := Aside0.mk (zl (by repeat (first | (with_reducible first | exact HB.out | apply ze | apply zc | apply zd) | exact HB.out)) hb); have n1_ := Aside0.mk (hbox); have n2_ := Aside0.mk ((by rw [hg]; exact (zm (by repeat (first | (with_reducible first | exact HB.out | apply ze | apply zc | apply zd) | exact HB.out))) : w.heap.size ≤ zC)); have n3_ := Aside0.mk ((by rw [hg]; exact (zm (by repeat (first | (with_reducible first | exact HB.out | apply ze | apply zc | apply zd) | exact HB.out))) : w.heap.size ≤ zC)); clear HB; have HB := n0_; have zB := n1_; have GW189 := n2_; have zF := n3_; clear n0_ n1_ n2_ n3_; clear hb hbox hg) | ((with_reducible refine zv (N := 3) rfl ?_); refine zw ?hg (N := 3) ?hd (cs := #[.string a1_0, .string a1_1, .int .i64 a1_2, .int .i64 a1_3, .int .i64 a1_4, .int .i64 a1_5, .int .i64 a1_6]) (t := 92) ?hr ?_; (case hd => rfl); (case hg => rfl); (case hr => first | (go_simp; done) | (go_simp; rfl)); intro zE hg w31 hbox hb; have n0_ := Aside0.mk (zt (g := zC) (o := .cells #[.string a0_0, .string a0_1, .int .i64 a0_2, .int .i64 a0_3, .int .i64 a0_4, .int .i64 a0_5, .int .i64 a0_6] 92 (0, 0)) (by (with_reducible repeat (first | refine zi ?_ _ | refine zk ?_ | refine zh ?_ _)); exact zB.out) hb); have n1_ := Aside0.mk (zl (by repeat (first | (with_reducible first | exact HB.out | apply ze | apply zc | apply zd | refine zj ?_ zF.out) | exact HB.out)) hb); have n2_ := Aside0.mk (hbox); have n3_ := Aside0.mk ((by rw [hg]; exact (zm (by repeat (first | (with_reducible first | exact HB.out | apply ze | apply zc | apply zd | refine zj ?_ zF.out) | exact HB.out))) : w.heap.size ≤ zE)); have n4_ := Aside0.mk ((by rw [hg]; exact (zm (by repeat (first | (with_reducible first | exact HB.out | apply ze | apply zc | apply zd | refine zj ?_ zF.out) | exact HB.out))) : w.heap.size ≤ zE)); have n5_ := Aside0.mk ((by rw [hg]; exact Nat.ne_of_lt (zy (g := zC) (o := .cells #[.string a0_0, .string a0_1, .int .i64 a0_2, .int .i64 a0_3, .int .i64 a0_4, .int .i64 a0_5, .int .i64 a0_6] 92 (0, 0)) (by (with_reducible repeat (first | refine zi ?_ _ | refine zk ?_ | refine zh ?_ _)); exact zB.out)) : zC ≠ zE)); have n6_ := Aside0.mk ((by rw [hg]; exact Nat.ne_of_gt (zy (g := zC) (o := .cells #[.string a0_0, .string a0_1, .int .i64 a0_2, .int .i64 a0_3, .int .i64 a0_4, .int .i64 a0_5, .int .i64 a0_6] 92 (0, 0)) (by (with_reducible repeat (first | refine zi ?_ _ | refine zk ?_ | refine zh ?_ _)); exact zB.out)) : zE ≠ zC)); clear zB; clear HB; have zB := n0_; have HB := n1_; have zD := n2_; have GW190 := n3_; have zI := n4_; have zG := n5_; have zH := n6_; clear n0_ n1_ n2_ n3_ n4_ n5_ n6_; clear hb hbox hg; have zhf := zG.out; have zif := zH.out; have zRc : w31.cell? ⟨zC, 0, none⟩ = some (.string a0_0) := (zg zB.out 0).trans rfl; have zSc : w31.cell? ⟨zC, 1, none⟩ = some (.string a0_1) := (zg zB.out 1).trans rfl; have zTc : w31.cell? ⟨zC, 2, none⟩ = some (.int .i64 a0_2) := (zg zB.out 2).trans rfl; have zUc : w31.cell? ⟨zC, 3, none⟩ = some (.int .i64 a0_3) := (zg zB.out 3).trans rfl; have zVc : w31.cell? ⟨zC, 4, none⟩ = some (.int .i64 a0_4) := (zg zB.out 4).trans rfl; have zWc : w31.cell? ⟨zC, 5, none⟩ = some (.int .i64 a0_5) := (zg zB.out 5).trans rfl; have zXc : w31.cell? ⟨zC, 6, none⟩ = some (.int .i64 a0_6) := (zg zB.out 6).trans rfl; have zYc := zf zB.out 0; have zZc := zf zB.out 1; have zad := zf zB.out 2; have zbd := zf zB.out 3; have zcd := zf zB.out 4; have zdd := zf zB.out 5; have zed := zf zB.out 6; have zfd : w31.cell? ⟨zE, 0, none⟩ = some (.string a1_0) := (zg zD.out 0).trans rfl; have zgd : w31.cell? ⟨zE, 1, none⟩ = some (.string a1_1) := (zg zD.out 1).trans rfl; have zhd : w31.cell? ⟨zE, 2, none⟩ = some (.int .i64 a1_2) := (zg zD.out 2).trans rfl; have zid : w31.cell? ⟨zE, 3, none⟩ = some (.int .i64 a1_3) := (zg zD.out 3).trans rfl; have zjd : w31.cell? ⟨zE, 4, none⟩ = some (.int .i64 a1_4) := (zg zD.out 4).trans rfl; have zkd : w31.cell? ⟨zE, 5, none⟩ = some (.int .i64 a1_5) := (zg zD.out 5).trans rfl; have zld : w31.cell? ⟨zE, 6, none⟩ = some (.int .i64 a1_6) := (zg zD.out 6).trans rfl; have zmd := zf zD.out 0; have znd := zf zD.out 1; have zod := zf zD.out 2; have zpd := zf zD.out 3; have zqd := zf zD.out 4; have zrd := zf zD.out 5; have zsd := zf zD.out 6))
     go_ret
     exact ⟨by first | rfl | (simp [errW_none, errW_some] <;> rfl) | (simp [*, errW_none, errW_some] <;> rfl), by repeat (first | (with_reducible first | exact HB.out | apply ze | apply zc | apply zd | refine zj ?_ zF.out | refine zj ?_ zI.out) | exact HB.out)⟩
   ·rw [if_neg c5] at H
    have c5b0 : (a0_2 == a1_2) = false := beq_eq_false_iff_ne.mpr c5
    have c5b1 : (a0_2 != a1_2) = true := bne_iff_ne.mpr c5
    obtain rfl := Option.some.inj H
    go_enter Tryd.func162, Tryd.ntmps162
    go_wp2_with (first | ((with_reducible refine zv (N := 2) rfl ?_); refine zw ?hg (N := 2) ?hd (cs := #[.string a0_0, .string a0_1, .int .i64 a0_2, .int .i64 a0_3, .int .i64 a0_4, .int .i64 a0_5, .int .i64 a0_6]) (t := 92) ?hr ?_; (case hd => rfl); (case hg => rfl); (case hr => first | (go_simp; done) | (go_simp; rfl)); intro zC hg w35 hbox hb; have n0_ := Aside0.mk (zl (by repeat (first | (with_reducible first | exact HB.out | apply ze | apply zc | apply zd) | exact HB.out)) hb); have n1_ := Aside0.mk (hbox); have n2_ := Aside0.mk ((by rw [hg]; exact (zm (by repeat (first | (with_reducible first | exact HB.out | apply ze | apply zc | apply zd) | exact HB.out))) : w.heap.size ≤ zC)); have n3_ := Aside0.mk ((by rw [hg]; exact (zm (by repeat (first | (with_reducible first | exact HB.out | apply ze | apply zc | apply zd) | exact HB.out))) : w.heap.size ≤ zC)); clear HB; have HB := n0_; have zB := n1_; have GW189 := n2_; have zF := n3_; clear n0_ n1_ n2_ n3_; clear hb hbox hg) | ((with_reducible refine zv (N := 3) rfl ?_); refine zw ?hg (N := 3) ?hd (cs := #[.string a1_0, .string a1_1, .int .i64 a1_2, .int .i64 a1_3, .int .i64 a1_4, .int .i64 a1_5, .int .i64 a1_6]) (t := 92) ?hr ?_; (case hd => rfl); (case hg => rfl); (case hr => first | (go_simp; done) | (go_simp; rfl)); intro zE hg w36 hbox hb; have n0_ := Aside0.mk (zt (g := zC) (o := .cells #[.string a0_0, .string a0_1, .int .i64 a0_2, .int .i64 a0_3, .int .i64 a0_4, .int .i64 a0_5, .int .i64 a0_6] 92 (0, 0)) (by (with_reducible repeat (first | refine zi ?_ _ | refine zk ?_ | refine zh ?_ _)); exact zB.out) hb); have n1_ := Aside0.mk (zl (by repeat (first | (with_reducible first | exact HB.out | apply ze | apply zc | apply zd | refine zj ?_ zF.out) | exact HB.out)) hb); have n2_ := Aside0.mk (hbox); have n3_ := Aside0.mk ((by rw [hg]; exact (zm (by repeat (first | (with_reducible first | exact HB.out | apply ze | apply zc | apply zd | refine zj ?_ zF.out) | exact HB.out))) : w.heap.size ≤ zE)); have n4_ := Aside0.mk ((by rw [hg]; exact (zm (by repeat (first | (with_reducible first | exact HB.out | apply ze | apply zc | apply zd | refine zj ?_ zF.out) | exact HB.out))) : w.heap.size ≤ zE)); have n5_ := Aside0.mk ((by rw [hg]; exact Nat.ne_of_lt (zy (g := zC) (o := .cells #[.string a0_0, .string a0_1, .int .i64 a0_2, .int .i64 a0_3, .int .i64 a0_4, .int .i64 a0_5, .int .i64 a0_6] 92 (0, 0)) (by (with_reducible repeat (first | refine zi ?_ _ | refine zk ?_ | refine zh ?_ _)); exact zB.out)) : zC ≠ zE)); have n6_ := Aside0.mk ((by rw [hg]; exact Nat.ne_of_gt (zy (g := zC) (o := .cells #[.string a0_0, .string a0_1, .int .i64 a0_2, .int .i64 a0_3, .int .i64 a0_4, .int .i64 a0_5, .int .i64 a0_6] 92 (0, 0)) (by (with_reducible repeat (first | refine zi ?_ _ | refine zk ?_ | refine zh ?_ _)); exact zB.out)) : zE ≠ zC)); clear zB; clear HB; have zB := n0_; have HB := n1_; have zD := n2_; have GW190 := n3_; have zI := n4_; have zG := n5_; have zH := n6_; clear n0_ n1_ n2_ n3_ n4_ n5_ n6_; clear hb hbox hg; have zjf := zG.out; have zkf := zH.out; have ztd : w36.cell? ⟨zC, 0, none⟩ = some (.string a0_0) := (zg zB.out 0).trans rfl; have zud : w36.cell? ⟨zC, 1, none⟩ = some (.string a0_1) := (zg zB.out 1).trans rfl; have zvd : w36.cell? ⟨zC, 2, none⟩ = some (.int .i64 a0_2) := (zg zB.out 2).trans rfl; have zwd : w36.cell? ⟨zC, 3, none⟩ = some (.int .i64 a0_3) := (zg zB.out 3).trans rfl; have zxd : w36.cell? ⟨zC, 4, none⟩ = some (.int .i64 a0_4) := (zg zB.out 4).trans rfl; have zyd : w36.cell? ⟨zC, 5, none⟩ = some (.int .i64 a0_5) := (zg zB.out 5).trans rfl; have zzd : w36.cell? ⟨zC, 6, none⟩ = some (.int .i64 a0_6) := (zg zB.out 6).trans rfl; have zAd := zf zB.out 0; have zBd := zf zB.out 1; have zCd := zf zB.out 2; have zDd := zf zB.out 3; have zEd := zf zB.out 4; have zFd := zf zB.out 5; have zGd := zf zB.out 6; have zHd : w36.cell? ⟨zE, 0, none⟩ = some (.string a1_0) := (zg zD.out 0).trans rfl; have zId : w36.cell? ⟨zE, 1, none⟩ = some (.string a1_1) := (zg zD.out 1).trans rfl; have zJd : w36.cell? ⟨zE, 2, none⟩ = some (.int .i64 a1_2) := (zg zD.out 2).trans rfl; have zKd : w36.cell? ⟨zE, 3, none⟩ = some (.int .i64 a1_3) := (zg zD.out 3).trans rfl; have zLd : w36.cell? ⟨zE, 4, none⟩ = some (.int .i64 a1_4) := (zg zD.out 4).trans rfl; have zMd : w36.cell? ⟨zE, 5, none⟩ = some (.int .i64 a1_5) := (zg zD.out 5).trans rfl; have zNd : w36.cell? ⟨zE, 6, none⟩ = some (.int .i64 a1_6) := (zg zD.out 6).trans rfl; have zOd := zf zD.out 0; have zPd := zf zD.out 1; have zQd := zf zD.out 2; have zRd := zf zD.out 3; have zSd := zf zD.out 4; have zTd := zf zD.out 5; have zUd := zf zD.out 6))
    go_ret
    exact ⟨by first | rfl | (simp [errW_none, errW_some] <;> rfl) | (simp [*, errW_none, errW_some] <;> rfl), by repeat (first | (with_reducible first | exact HB.out | apply ze | apply zc | apply zd | refine zj ?_ zF.out | refine zj ?_ zI.out) | exact HB.out)⟩
  ·rw [if_neg c4] at H
   have c4b0 : (a0_1.toList == a1_1.toList) = false := beq_eq_false_iff_ne.mpr c4
   have c4b1 : (a0_1.toList != a1_1.toList) = true := bne_iff_ne.mpr c4
   obtain rfl := Option.some.inj H
   go_enter Tryd.func162, Tryd.ntmps162
   go_wp2_with (first | ((with_reducible refine zv (N := 2) rfl ?_); refine zw ?hg (N := 2) ?hd (cs := #[.string a0_0, .string a0_1, .int .i64 a0_2, .int .i64 a0_3, .int .i64 a0_4, .int .i64 a0_5, .int .i64 a0_6]) (t := 92) ?hr ?_; (case hd => rfl); (case hg => rfl); (case hr => first | (go_simp; done) | (go_simp; rfl)); intro zC hg w40 hbox hb; have n0_ := Aside0.mk (zl (by repeat (first | (with_reducible first | exact HB.out | apply ze | apply zc | apply zd) | exact HB.out)) hb); have n1_ := Aside0.mk (hbox); have n2_ := Aside0.mk ((by rw [hg]; exact (zm (by repeat (first | (with_reducible first | exact HB.out | apply ze | apply zc | apply zd) | exact HB.out))) : w.heap.size ≤ zC)); have n3_ := Aside0.mk ((by rw [hg]; exact (zm (by repeat (first | (with_reducible first | exact HB.out | apply ze | apply zc | apply zd) | exact HB.out))) : w.heap.size ≤ zC)); clear HB; have HB := n0_; have zB := n1_; have GW189 := n2_; have zF := n3_; clear n0_ n1_ n2_ n3_; clear hb hbox hg) | ((with_reducible refine zv (N := 3) rfl ?_); refine zw ?hg (N := 3) ?hd (cs := #[.string a1_0, .string a1_1, .int .i64 a1_2, .int .i64 a1_3, .int .i64 a1_4, .int .i64 a1_5, .int .i64 a1_6]) (t := 92) ?hr ?_; (case hd => rfl); (case hg => rfl); (case hr => first | (go_simp; done) | (go_simp; rfl)); intro zE hg w41 hbox hb; have n0_ := Aside0.mk (zt (g := zC) (o := .cells #[.string a0_0, .string a0_1, .int .i64 a0_2, .int .i64 a0_3, .int .i64 a0_4, .int .i64 a0_5, .int .i64 a0_6] 92 (0, 0)) (by (with_reducible repeat (first | refine zi ?_ _ | refine zk ?_ | refine zh ?_ _)); exact zB.out) hb); have n1_ := Aside0.mk (zl (by repeat (first | (with_reducible first | exact HB.out | apply ze | apply zc | apply zd | refine zj ?_ zF.out) | exact HB.out)) hb); have n2_ := Aside0.mk (hbox); have n3_ := Aside0.mk ((by rw [hg]; exact (zm (by repeat (first | (with_reducible first | exact HB.out | apply ze | apply zc | apply zd | refine zj ?_ zF.out) | exact HB.out))) : w.heap.size ≤ zE)); have n4_ := Aside0.mk ((by rw [hg]; exact (zm (by repeat (first | (with_reducible first | exact HB.out | apply ze | apply zc | apply zd | refine zj ?_ zF.out) | exact HB.out))) : w.heap.size ≤ zE)); have n5_ := Aside0.mk ((by rw [hg]; exact Nat.ne_of_lt (zy (g := zC) (o := .cells #[.string a0_0, .string a0_1, .int .i64 a0_2, .int .i64 a0_3, .int .i64 a0_4, .int .i64 a0_5, .int .i64 a0_6] 92 (0, 0)) (by (with_reducible repeat (first | refine zi ?_ _ | refine zk ?_ | refine zh ?_ _)); exact zB.out)) : zC ≠ zE)); have n6_ := Aside0.mk ((by rw [hg]; exact Nat.ne_of_gt (zy (g := zC) (o := .cells #[.string a0_0, .string a0_1, .int .i64 a0_2, .int .i64 a0_3, .int .i64 a0_4, .int .i64 a0_5, .int .i64 a0_6] 92 (0, 0)) (by (with_reducible repeat (first | refine zi ?_ _ | refine zk ?_ | refine zh ?_ _)); exact zB.out)) : zE ≠ zC)); clear zB; clear HB; have zB := n0_; have HB := n1_; have zD := n2_; have GW190 := n3_; have zI := n4_; have zG := n5_; have zH := n6_; clear n0_ n1_ n2_ n3_ n4_ n5_ n6_; clear hb hbox hg; have zlf := zG.out; have zmf := zH.out; have zVd : w41.cell? ⟨zC, 0, none⟩ = some (.string a0_0) := (zg zB.out 0).trans rfl; have zWd : w41.cell? ⟨zC, 1, none⟩ = some (.string a0_1) := (zg zB.out 1).trans rfl; have zXd : w41.cell? ⟨zC, 2, none⟩ = some (.int .i64 a0_2) := (zg zB.out 2).trans rfl; have zYd : w41.cell? ⟨zC, 3, none⟩ = some (.int .i64 a0_3) := (zg zB.out 3).trans rfl; have zZd : w41.cell? ⟨zC, 4, none⟩ = some (.int .i64 a0_4) := (zg zB.out 4).trans rfl; have zae : w41.cell? ⟨zC, 5, none⟩ = some (.int .i64 a0_5) := (zg zB.out 5).trans rfl; have zbe : w41.cell? ⟨zC, 6, none⟩ = some (.int .i64 a0_6) := (zg zB.out 6).trans rfl; have zce := zf zB.out 0; have zde := zf zB.out 1; have zee := zf zB.out 2; have zfe := zf zB.out 3; have zge := zf zB.out 4; have zhe := zf zB.out 5; have zie := zf zB.out 6; have zje : w41.cell? ⟨zE, 0, none⟩ = some (.string a1_0) := (zg zD.out 0).trans rfl; have zke : w41.cell? ⟨zE, 1, none⟩ = some (.string a1_1) := (zg zD.out 1).trans rfl; have zle : w41.cell? ⟨zE, 2, none⟩ = some (.int .i64 a1_2) := (zg zD.out 2).trans rfl; have zme : w41.cell? ⟨zE, 3, none⟩ = some (.int .i64 a1_3) := (zg zD.out 3).trans rfl; have zne : w41.cell? ⟨zE, 4, none⟩ = some (.int .i64 a1_4) := (zg zD.out 4).trans rfl; have zoe : w41.cell? ⟨zE, 5, none⟩ = some (.int .i64 a1_5) := (zg zD.out 5).trans rfl; have zpe : w41.cell? ⟨zE, 6, none⟩ = some (.int .i64 a1_6) := (zg zD.out 6).trans rfl; have zqe := zf zD.out 0; have zre := zf zD.out 1; have zse := zf zD.out 2; have zte := zf zD.out 3; have zue := zf zD.out 4; have zve := zf zD.out 5; have zwe := zf zD.out 6))
   go_ret
   exact ⟨by first | rfl | (simp [errW_none, errW_some] <;> rfl) | (simp [*, errW_none, errW_some] <;> rfl), by repeat (first | (with_reducible first | exact HB.out | apply ze | apply zc | apply zd | refine zj ?_ zF.out | refine zj ?_ zI.out) | exact HB.out)⟩
 ·rw [if_neg c3] at H
  have c3b0 : (a0_0.toList == a1_0.toList) = false := beq_eq_false_iff_ne.mpr c3
  have c3b1 : (a0_0.toList != a1_0.toList) = true := bne_iff_ne.mpr c3
  obtain rfl := Option.some.inj H
  go_enter Tryd.func162, Tryd.ntmps162
  go_wp2_with (first | ((with_reducible refine zv (N := 2) rfl ?_); refine zw ?hg (N := 2) ?hd (cs := #[.string a0_0, .string a0_1, .int .i64 a0_2, .int .i64 a0_3, .int .i64 a0_4, .int .i64 a0_5, .int .i64 a0_6]) (t := 92) ?hr ?_; (case hd => rfl); (case hg => rfl); (case hr => first | (go_simp; done) | (go_simp; rfl)); intro zC hg w45 hbox hb; have n0_ := Aside0.mk (zl (by repeat (first | (with_reducible first | exact HB.out | apply ze | apply zc | apply zd) | exact HB.out)) hb); have n1_ := Aside0.mk (hbox); have n2_ := Aside0.mk ((by rw [hg]; exact (zm (by repeat (first | (with_reducible first | exact HB.out | apply ze | apply zc | apply zd) | exact HB.out))) : w.heap.size ≤ zC)); have n3_ := Aside0.mk ((by rw [hg]; exact (zm (by repeat (first | (with_reducible first | exact HB.out | apply ze | apply zc | apply zd) | exact HB.out))) : w.heap.size ≤ zC)); clear HB; have HB := n0_; have zB := n1_; have GW189 := n2_; have zF := n3_; clear n0_ n1_ n2_ n3_; clear hb hbox hg) | ((with_reducible refine zv (N := 3) rfl ?_); refine zw ?hg (N := 3) ?hd (cs := #[.string a1_0, .string a1_1, .int .i64 a1_2, .int .i64 a1_3, .int .i64 a1_4, .int .i64 a1_5, .int .i64 a1_6]) (t := 92) ?hr ?_; (case hd => rfl); (case hg => rfl); (case hr => first | (go_simp; done) | (go_simp; rfl)); intro zE hg w46 hbox hb; have n0_ := Aside0.mk (zt (g := zC) (o := .cells #[.string a0_0, .string a0_1, .int .i64 a0_2, .int .i64 a0_3, .int .i64 a0_4, .int .i64 a0_5, .int .i64 a0_6] 92 (0, 0)) (by (with_reducible repeat (first | refine zi ?_ _ | refine zk ?_ | refine zh ?_ _)); exact zB.out) hb); have n1_ := Aside0.mk (zl (by repeat (first | (with_reducible first | exact HB.out | apply ze | apply zc | apply zd | refine zj ?_ zF.out) | exact HB.out)) hb); have n2_ := Aside0.mk (hbox); have n3_ := Aside0.mk ((by rw [hg]; exact (zm (by repeat (first | (with_reducible first | exact HB.out | apply ze | apply zc | apply zd | refine zj ?_ zF.out) | exact HB.out))) : w.heap.size ≤ zE)); have n4_ := Aside0.mk ((by rw [hg]; exact (zm (by repeat (first | (with_reducible first | exact HB.out | apply ze | apply zc | apply zd | refine zj ?_ zF.out) | exact HB.out))) : w.heap.size ≤ zE)); have n5_ := Aside0.mk ((by rw [hg]; exact Nat.ne_of_lt (zy (g := zC) (o := .cells #[.string a0_0, .string a0_1, .int .i64 a0_2, .int .i64 a0_3, .int .i64 a0_4, .int .i64 a0_5, .int .i64 a0_6] 92 (0, 0)) (by (with_reducible repeat (first | refine zi ?_ _ | refine zk ?_ | refine zh ?_ _)); exact zB.out)) : zC ≠ zE)); have n6_ := Aside0.mk ((by rw [hg]; exact Nat.ne_of_gt (zy (g := zC) (o := .cells #[.string a0_0, .string a0_1, .int .i64 a0_2, .int .i64 a0_3, .int .i64 a0_4, .int .i64 a0_5, .int .i64 a0_6] 92 (0, 0)) (by (with_reducible repeat (first | refine zi ?_ _ | refine zk ?_ | refine zh ?_ _)); exact zB.out)) : zE ≠ zC)); clear zB; clear HB; have zB := n0_; have HB := n1_; have zD := n2_; have GW190 := n3_; have zI := n4_; have zG := n5_; have zH := n6_; clear n0_ n1_ n2_ n3_ n4_ n5_ n6_; clear hb hbox hg; have znf := zG.out; have zof := zH.out; have zxe : w46.cell? ⟨zC, 0, none⟩ = some (.string a0_0) := (zg zB.out 0).trans rfl; have zye : w46.cell? ⟨zC, 1, none⟩ = some (.string a0_1) := (zg zB.out 1).trans rfl; have zze : w46.cell? ⟨zC, 2, none⟩ = some (.int .i64 a0_2) := (zg zB.out 2).trans rfl; have zAe : w46.cell? ⟨zC, 3, none⟩ = some (.int .i64 a0_3) := (zg zB.out 3).trans rfl; have zBe : w46.cell? ⟨zC, 4, none⟩ = some (.int .i64 a0_4) := (zg zB.out 4).trans rfl; have zCe : w46.cell? ⟨zC, 5, none⟩ = some (.int .i64 a0_5) := (zg zB.out 5).trans rfl; have zDe : w46.cell? ⟨zC, 6, none⟩ = some (.int .i64 a0_6) := (zg zB.out 6).trans rfl; have zEe := zf zB.out 0; have zFe := zf zB.out 1; have zGe := zf zB.out 2; have zHe := zf zB.out 3; have zIe := zf zB.out 4; have zJe := zf zB.out 5; have zKe := zf zB.out 6; have zLe : w46.cell? ⟨zE, 0, none⟩ = some (.string a1_0) := (zg zD.out 0).trans rfl; have zMe : w46.cell? ⟨zE, 1, none⟩ = some (.string a1_1) := (zg zD.out 1).trans rfl; have zNe : w46.cell? ⟨zE, 2, none⟩ = some (.int .i64 a1_2) := (zg zD.out 2).trans rfl; have zOe : w46.cell? ⟨zE, 3, none⟩ = some (.int .i64 a1_3) := (zg zD.out 3).trans rfl; have zPe : w46.cell? ⟨zE, 4, none⟩ = some (.int .i64 a1_4) := (zg zD.out 4).trans rfl; have zQe : w46.cell? ⟨zE, 5, none⟩ = some (.int .i64 a1_5) := (zg zD.out 5).trans rfl; have zRe : w46.cell? ⟨zE, 6, none⟩ = some (.int .i64 a1_6) := (zg zD.out 6).trans rfl; have zSe := zf zD.out 0; have zTe := zf zD.out 1; have zUe := zf zD.out 2; have zVe := zf zD.out 3; have zWe := zf zD.out 4; have zXe := zf zD.out 5; have zYe := zf zD.out 6))
  go_ret
  exact ⟨by first | rfl | (simp [errW_none, errW_some] <;> rfl) | (simp [*, errW_none, errW_some] <;> rfl), by repeat (first | (with_reducible first | exact HB.out | apply ze | apply zc | apply zd | refine zj ?_ zF.out | refine zj ?_ zI.out) | exact HB.out)⟩

def laws_eqNodeS.l0 : Nat → List (S92) → List (S92) → Int → Option (Bool)
 | 0, _, _, _ => none
 | k + 1, x0, x1, x5 => if x5 < (x0.length : Int) then (if 0 ≤ x5 then (if x5 < (x1.length : Int) then ((laws_eqNode.f ((rd_T92 x0 x5).f0) ((rd_T92 x0 x5).f1) ((rd_T92 x0 x5).f2) ((rd_T92 x0 x5).f3) ((rd_T92 x0 x5).f4) ((rd_T92 x0 x5).f5) ((rd_T92 x0 x5).f6) ((rd_T92 x1 x5).f0) ((rd_T92 x1 x5).f1) ((rd_T92 x1 x5).f2) ((rd_T92 x1 x5).f3) ((rd_T92 x1 x5).f4) ((rd_T92 x1 x5).f5) ((rd_T92 x1 x5).f6)).bind fun t193 => (if t193 = true then (laws_eqNodeS.l0 k x0 x1 (wrap64 (x5 + 1))) else (some false))) else (none)) else (none)) else (some true)
def laws_eqNodeS.f (k : Nat) (l0 : List (S92)) (l1 : List (S92)) : Option (Bool) := if (l0.length : Int) = (l1.length : Int) then (laws_eqNodeS.l0 k l0 l1 0) else (some false)
theorem laws_eqNodeS.mono_l : ∀ k, (∀ y0 y1 y2, LeO (laws_eqNodeS.l0 k y0 y1 y2) (laws_eqNodeS.l0 (k + 1) y0 y1 y2))
 | 0 => fun _ _ _ r h => by simp [laws_eqNodeS.l0] at h
 | k + 1 => by
  have ih0 := laws_eqNodeS.mono_l k
  ·intro y0 y1 y2
   unfold laws_eqNodeS.l0
   repeat' first
   | (with_reducible exact ih0 _ _ _)
   | (with_reducible exact LeO.refl _)
   | (with_reducible exact LeO.none _)
   | (with_reducible refine LeO.ite ?_ ?_)
   | (with_reducible refine LeO.bind ?_ (fun _ => ?_))
   | exact ih0 _ _ _
   | exact LeO.none _
   | refine LeO.ite ?_ ?_
   | refine LeO.bind ?_ (fun _ => ?_)
theorem laws_eqNodeS.mono : ∀ a0 a1 k, LeO (laws_eqNodeS.f k a0 a1) (laws_eqNodeS.f (k + 1) a0 a1) := by
 intro a0 a1 k
 have ih0 := laws_eqNodeS.mono_l k
 unfold laws_eqNodeS.f
 repeat' first
   | (with_reducible exact ih0 _ _ _)
   | (with_reducible exact LeO.refl _)
   | (with_reducible exact LeO.none _)
   | (with_reducible refine LeO.ite ?_ ?_)
   | (with_reducible refine LeO.bind ?_ (fun _ => ?_))
   | exact ih0 _ _ _
   | exact LeO.none _
   | refine LeO.ite ?_ ?_
   | refine LeO.bind ?_ (fun _ => ?_)
def laws_eqNodeS.T6 : Bool × List (List Nat × List Nat) := (true, [([], []), ([], []), ([0, 1], [0, 1]), ([2], [2]), ([], []), ([], []), ([4, 5], [4, 5]), ([6], [6]), ([3, 7], [3, 7]), ([8], [8])])
def laws_eqNodeS.B6 : List Nat := [0, 0, 3, 7, 0, 0, 48, 112, 255, 511]
theorem laws_eqNodeS.tab6 : rtab .any (opsOf Tryd.f99 6) = laws_eqNodeS.T6 := by kernel_rfl
theorem laws_eqNodeS.bits6 : waitsOk laws_eqNodeS.T6.2 laws_eqNodeS.B6 = true := by kernel_rfl
set_option maxHeartbeats 8000000 in
set_option maxRecDepth 100000 in
theorem laws_eqNodeS.calls (k : Nat) (A0 : Option Addr) (c0 : Nat) (l0 : List (S92)) (A1 : Option Addr) (c1 : Nat) (l1 : List (S92)) (r : Bool) (w : World) (hr0 : Kd.C k92 w A0 l0.length l0) (hc0 : l0.length ≤ c0) (hr1 : Kd.C k92 w A1 l1.length l1) (hc1 : l1.length ≤ c1) (h : laws_eqNodeS.f k l0 l1 = some r) :
  Calls Tryd.prog 99 #[.slice A0 l0.length c0, .slice A1 l1.length c1] w fun e w' => e = .returned (.bool r) ∧ Below w.heap.size w w' := by
 have hu92 := Tryd.underlying92
 have HR0 := Aside0.mk hr0
 have HC0 := Aside0.mk hc0
 clear hr0 hc0
 have HR1 := Aside0.mk hr1
 have HC1 := Aside0.mk hc1
 clear hr1 hc1
 have HB := Aside0.mk (Below.refl w.heap.size w)
 have H : (if (l0.length : Int) = (l1.length : Int) then (laws_eqNodeS.l0 k l0 l1 0) else (some false)) = some r := h
 clear h
 by_cases c3 : (l0.length : Int) = (l1.length : Int)
 ·rw [if_pos c3] at H
  have c3b0 : ((l0.length : Int) == (l1.length : Int)) = true := beq_iff_eq.mpr c3
  have c3b1 : ((l0.length : Int) != (l1.length : Int)) = false := bne_eq_false_iff_eq.mpr c3
  have c3b2 : (l0.length == l1.length) = true := by first | simpa using c3 | (simp at c3 ⊢; omega)
  clear c3
  have H' := Aside0.mk H
  clear H
  go_enter Tryd.func99, Tryd.ntmps99
  go_wp2
  go_loopg [5] k (fun kq v5 w' => ∃ (x5_1 : Int), v5 = .int .i64 x5_1 ∧ Aside0 (laws_eqNodeS.l0 kq l0 l1 x5_1 = some r) ∧ Aside0 (kq ≤ k) ∧ Aside0 (Below w.heap.size w w'))
  case atStart => exact ⟨(0), (by first | rfl | (simp; done) | (simp [*]; done)), H', ⟨Nat.le_refl _⟩, ⟨by repeat (first | (with_reducible first | exact HB.out | apply ze | apply zc | apply zd) | exact HB.out)⟩⟩
  case round =>
   clear H'
   try clear c1
   try clear p2
   try clear c3
   try clear c3b0
   try clear c3b1
   try clear c3b2
   obtain ⟨x5_1, rfl, HA, HK1, HB⟩ := hrel
   cases gk with
   | zero => exact absurd HA.out (by simp [laws_eqNodeS.l0])
   | succ k1 =>
    have H := HA.out
    clear HA
    simp only [laws_eqNodeS.l0] at H
    by_cases c4 : x5_1 < (l0.length : Int)
    ·rw [if_pos c4] at H
     have c4b0 : decide (x5_1 < (l0.length : Int)) = true := decide_eq_true c4
     clear c4
     by_cases c5 : 0 ≤ x5_1
     ·rw [if_pos c5] at H
      have c5b0 : decide (0 ≤ x5_1) = true := decide_eq_true c5
      clear c5
      by_cases c6 : x5_1 < (l1.length : Int)
      ·rw [if_pos c6] at H
       have c6b0 : decide (x5_1 < (l1.length : Int)) = true := decide_eq_true c6
       clear c6
       replace H := Option.bind_eq_some_iff.mp H
       obtain ⟨t193, A70, H⟩ := H
       replace H : (if t193 = true then (laws_eqNodeS.l0 k1 l0 l1 (wrap64 (x5_1 + 1))) else (some false)) = some r := H
       have A7 := Aside0.mk A70
       clear A70
       by_cases c8 : t193 = true
       ·subst c8
        have H1 : (laws_eqNodeS.l0 k1 l0 l1 (wrap64 (x5_1 + 1))) = some r := by rw [if_pos rfl] at H; exact H
        clear H
        have H := H1
        clear H1
        have H' := Aside0.mk H
        clear H
        try go_wp2
        have n0_ := Aside0.mk (zd HB.out)
        clear HB
        have HB := n0_
        clear n0_
        have p191 : 0 ≤ (x5_1 : Int) := of_decide_eq_true (by first | (with_reducible assumption) | assumption)
        have q191 : x5_1 < (l0.length : Int) := of_decide_eq_true (by first | (with_reducible assumption) | assumption)
        obtain ⟨ad191, e191, hx191_0, hx191_1, hx191_2, hx191_3, hx191_4, hx191_5, hx191_6⟩ := at_T92 HR0.out x5_1 p191 q191
        have hw191_6 := hx191_6
        have hw191_5 := hx191_5
        have hw191_4 := hx191_4
        have hw191_3 := hx191_3
        have hw191_2 := hx191_2
        have hw191_1 := hx191_1
        have hw191_0 := hx191_0
        cases e191
        replace hx191_0 := zb HB.out hx191_0
        replace hx191_1 := zb HB.out hx191_1
        replace hx191_2 := zb HB.out hx191_2
        replace hx191_3 := zb HB.out hx191_3
        replace hx191_4 := zb HB.out hx191_4
        replace hx191_5 := zb HB.out hx191_5
        replace hx191_6 := zb HB.out hx191_6
        replace p191 := eq_true p191
        replace q191 := eq_true q191
        have p192 : 0 ≤ (x5_1 : Int) := of_decide_eq_true (by first | (with_reducible assumption) | assumption)
        have q192 : x5_1 < (l1.length : Int) := of_decide_eq_true (by first | (with_reducible assumption) | assumption)
        obtain ⟨ad192, e192, hx192_0, hx192_1, hx192_2, hx192_3, hx192_4, hx192_5, hx192_6⟩ := at_T92 HR1.out x5_1 p192 q192
        have hw192_6 := hx192_6
        have hw192_5 := hx192_5
        have hw192_4 := hx192_4
        have hw192_3 := hx192_3
        have hw192_2 := hx192_2
        have hw192_1 := hx192_1
        have hw192_0 := hx192_0
        cases e192
        replace hx192_0 := zb HB.out hx192_0
        replace hx192_1 := zb HB.out hx192_1
        replace hx192_2 := zb HB.out hx192_2
        replace hx192_3 := zb HB.out hx192_3
        replace hx192_4 := zb HB.out hx192_4
        replace hx192_5 := zb HB.out hx192_5
        replace hx192_6 := zb HB.out hx192_6
        replace p192 := eq_true p192
        replace q192 := eq_true q192
        refine start_ (n := 10) (S := fun w' => w'.cell? (ad191.add ((x5_1).toNat * 7)) = some (.string ((rd_T92 l0 x5_1).f0)) ∧ w'.cell? ⟨(ad191.add ((x5_1).toNat * 7)).block, (ad191.add ((x5_1).toNat * 7)).off + 1, none⟩ = some (.string ((rd_T92 l0 x5_1).f1)) ∧ w'.cell? ⟨(ad191.add ((x5_1).toNat * 7)).block, (ad191.add ((x5_1).toNat * 7)).off + 2, none⟩ = some (.int .i64 ((rd_T92 l0 x5_1).f2)) ∧ w'.cell? ⟨(ad191.add ((x5_1).toNat * 7)).block, (ad191.add ((x5_1).toNat * 7)).off + 3, none⟩ = some (.int .i64 ((rd_T92 l0 x5_1).f3)) ∧ w'.cell? ⟨(ad191.add ((x5_1).toNat * 7)).block, (ad191.add ((x5_1).toNat * 7)).off + 4, none⟩ = some (.int .i64 ((rd_T92 l0 x5_1).f4)) ∧ w'.cell? ⟨(ad191.add ((x5_1).toNat * 7)).block, (ad191.add ((x5_1).toNat * 7)).off + 5, none⟩ = some (.int .i64 ((rd_T92 l0 x5_1).f5)) ∧ w'.cell? ⟨(ad191.add ((x5_1).toNat * 7)).block, (ad191.add ((x5_1).toNat * 7)).off + 6, none⟩ = some (.int .i64 ((rd_T92 l0 x5_1).f6)) ∧ w'.cell? (ad192.add ((x5_1).toNat * 7)) = some (.string ((rd_T92 l1 x5_1).f0)) ∧ w'.cell? ⟨(ad192.add ((x5_1).toNat * 7)).block, (ad192.add ((x5_1).toNat * 7)).off + 1, none⟩ = some (.string ((rd_T92 l1 x5_1).f1)) ∧ w'.cell? ⟨(ad192.add ((x5_1).toNat * 7)).block, (ad192.add ((x5_1).toNat * 7)).off + 2, none⟩ = some (.int .i64 ((rd_T92 l1 x5_1).f2)) ∧ w'.cell? ⟨(ad192.add ((x5_1).toNat * 7)).block, (ad192.add ((x5_1).toNat * 7)).off + 3, none⟩ = some (.int .i64 ((rd_T92 l1 x5_1).f3)) ∧ w'.cell? ⟨(ad192.add ((x5_1).toNat * 7)).block, (ad192.add ((x5_1).toNat * 7)).off + 4, none⟩ = some (.int .i64 ((rd_T92 l1 x5_1).f4)) ∧ w'.cell? ⟨(ad192.add ((x5_1).toNat * 7)).block, (ad192.add ((x5_1).toNat * 7)).off + 5, none⟩ = some (.int .i64 ((rd_T92 l1 x5_1).f5)) ∧ w'.cell? ⟨(ad192.add ((x5_1).toNat * 7)).block, (ad192.add ((x5_1).toNat * 7)).off + 6, none⟩ = some (.int .i64 ((rd_T92 l1 x5_1).f6))) (ds := []) #[false, false, false, false, false, false, false, false, false, false] (by kernel_rfl) rfl rfl ⟨(zb HB.out hw191_0), (zb HB.out hw191_1), (zb HB.out hw191_2), (zb HB.out hw191_3), (zb HB.out hw191_4), (zb HB.out hw191_5), (zb HB.out hw191_6), (zb HB.out hw192_0), (zb HB.out hw192_1), (zb HB.out hw192_2), (zb HB.out hw192_3), (zb HB.out hw192_4), (zb HB.out hw192_5), (zb HB.out hw192_6)⟩ (fun hHeld => ?_); refine with_tabW laws_eqNodeS.tab6 laws_eqNodeS.bits6 (fun HT_ HW_ => ?_)
        generalize wr.drew = w9 at HB hx191_0 hx191_1 hx191_2 hx191_3 hx191_4 hx191_5 hx191_6 hx192_0 hx192_1 hx192_2 hx192_3 hx192_4 hx192_5 hx192_6 hHeld ⊢
        refine zr (i := 0) (N := some 17) (v := ?_) (a' := ?_) #[true, false, false, false, false, false, false, false, false, false] rfl rfl (zn HT_.out (by kernel_rfl)) (fun _ _ _ h => h) (Or.inl ⟨by rfl, ?_⟩) ?_ ?_
        rotate_left
        ·intro w'
         go_simp
         with_reducible rfl
        rotate_left
        ·simp only [Act.put, List.setIfInBounds_toArray, List.set_cons_zero, List.set_cons_succ, zo, zp]
         rfl
        refine zr (i := 1) (N := some 18) (v := ?_) (a' := ?_) #[true, true, false, false, false, false, false, false, false, false] rfl rfl (zn HT_.out (by kernel_rfl)) (fun _ _ _ h => h) (Or.inl ⟨by rfl, ?_⟩) ?_ ?_
        rotate_left
        ·intro w'
         go_simp
         with_reducible rfl
        rotate_left
        ·simp only [Act.put, List.setIfInBounds_toArray, List.set_cons_zero, List.set_cons_succ, zo, zp]
         rfl
        refine zr (i := 2) (N := some 19) (v := ?_) (a' := ?_) #[true, true, true, false, false, false, false, false, false, false] rfl rfl (zn HT_.out (by kernel_rfl)) (fun _ _ _ h => h) (Or.inl ⟨by rfl, ?_⟩) ?_ ?_
        rotate_left
        ·intro w'
         go_simp
         with_reducible rfl
        rotate_left
        ·simp only [Act.put, List.setIfInBounds_toArray, List.set_cons_zero, List.set_cons_succ, zo, zp]
         rfl
        refine zr (i := 4) (N := some 21) (v := ?_) (a' := ?_) #[true, true, true, false, true, false, false, false, false, false] rfl rfl (zn HT_.out (by kernel_rfl)) (fun _ _ _ h => h) (Or.inl ⟨by rfl, ?_⟩) ?_ ?_
        rotate_left
        ·intro w'
         go_simp
         with_reducible rfl
        rotate_left
        ·simp only [Act.put, List.setIfInBounds_toArray, List.set_cons_zero, List.set_cons_succ, zo, zp]
         rfl
        refine zr (i := 5) (N := some 22) (v := ?_) (a' := ?_) #[true, true, true, false, true, true, false, false, false, false] rfl rfl (zn HT_.out (by kernel_rfl)) (fun _ _ _ h => h) (Or.inl ⟨by rfl, ?_⟩) ?_ ?_
        rotate_left
        ·intro w'
         go_simp
         with_reducible rfl
        rotate_left
        ·simp only [Act.put, List.setIfInBounds_toArray, List.set_cons_zero, List.set_cons_succ, zo, zp]
         rfl
        refine zr (i := 6) (N := some 23) (v := ?_) (a' := ?_) #[true, true, true, false, true, true, true, false, false, false] rfl rfl (zn HT_.out (by kernel_rfl)) (fun _ _ _ h => h) (Or.inl ⟨by rfl, ?_⟩) ?_ ?_
        rotate_left
        ·intro w'
         go_simp
         with_reducible rfl
        rotate_left
        ·simp only [Act.put, List.setIfInBounds_toArray, List.set_cons_zero, List.set_cons_succ, zo, zp]
         rfl
        refine take_ (i := 3) (N := some 20) (v := ?_) (a' := ?_) #[true, true, true, true, true, true, true, false, false, false] rfl rfl (zA HT_.out HW_.out (by kernel_rfl)) (fun _ _ _ h => h) (Or.inl ⟨by rfl, ?_⟩) hHeld ?_ ?_
        rotate_left
        ·rintro w' ⟨s0, s1, s2, s3, s4, s5, s6, s7, s8, s9, s10, s11, s12, s13⟩
         go_simp
         with_reducible rfl
        rotate_left
        ·simp only [Act.put, List.setIfInBounds_toArray, List.set_cons_zero, List.set_cons_succ, zo, zp]
         rfl
        refine take_ (i := 7) (N := some 24) (v := ?_) (a' := ?_) #[true, true, true, true, true, true, true, true, false, false] rfl rfl (zA HT_.out HW_.out (by kernel_rfl)) (fun _ _ _ h => h) (Or.inl ⟨by rfl, ?_⟩) hHeld ?_ ?_
        rotate_left
        ·rintro w' ⟨s0, s1, s2, s3, s4, s5, s6, s7, s8, s9, s10, s11, s12, s13⟩
         go_simp
         with_reducible rfl
        rotate_left
        ·simp only [Act.put, List.setIfInBounds_toArray, List.set_cons_zero, List.set_cons_succ, zo, zp]
         rfl
        refine one_ (i := 8) (N := some 25) #[true, true, true, true, true, true, true, true, true, false] rfl rfl (one_of HT_.out (by kernel_rfl)) (by decide) (fun K hK => ?_)
        refine goes_ Tryd.func162 (by kernel_rfl) rfl #[.agg #[.string ((rd_T92 l0 x5_1).f0), .string ((rd_T92 l0 x5_1).f1), .int .i64 ((rd_T92 l0 x5_1).f2), .int .i64 ((rd_T92 l0 x5_1).f3), .int .i64 ((rd_T92 l0 x5_1).f4), .int .i64 ((rd_T92 l0 x5_1).f5), .int .i64 ((rd_T92 l0 x5_1).f6)], .agg #[.string ((rd_T92 l1 x5_1).f0), .string ((rd_T92 l1 x5_1).f1), .int .i64 ((rd_T92 l1 x5_1).f2), .int .i64 ((rd_T92 l1 x5_1).f3), .int .i64 ((rd_T92 l1 x5_1).f4), .int .i64 ((rd_T92 l1 x5_1).f5), .int .i64 ((rd_T92 l1 x5_1).f6)]] (by rfl) rfl rfl (by (try simp only [List.map_toArray, List.map_cons, List.map_nil]); first | done | rfl | (simp only [List.length_drop, List.length_take]; rfl)) ?_
        with_reducible refine (laws_eqNode.calls ((rd_T92 l0 x5_1).f0) ((rd_T92 l0 x5_1).f1) ((rd_T92 l0 x5_1).f2) ((rd_T92 l0 x5_1).f3) ((rd_T92 l0 x5_1).f4) ((rd_T92 l0 x5_1).f5) ((rd_T92 l0 x5_1).f6) ((rd_T92 l1 x5_1).f0) ((rd_T92 l1 x5_1).f1) ((rd_T92 l1 x5_1).f2) ((rd_T92 l1 x5_1).f3) ((rd_T92 l1 x5_1).f4) ((rd_T92 l1 x5_1).f5) ((rd_T92 l1 x5_1).f6) true _ A7.out).mono ?_
        rintro e w10 ⟨rfl, hb⟩
        refine ⟨_, rfl, ?_⟩
        have n0_ := Aside0.mk (zl (by repeat (first | (with_reducible first | exact HB.out | apply ze | apply zc | apply zd) | exact HB.out)) hb)
        clear HB
        have HB := n0_
        clear n0_
        (try clear hb)
        (try clear hb2)
        (try clear hk)
        (try clear hi)
        refine hK.out _ _ ⟨(zb HB.out hw191_0), (zb HB.out hw191_1), (zb HB.out hw191_2), (zb HB.out hw191_3), (zb HB.out hw191_4), (zb HB.out hw191_5), (zb HB.out hw191_6), (zb HB.out hw192_0), (zb HB.out hw192_1), (zb HB.out hw192_2), (zb HB.out hw192_3), (zb HB.out hw192_4), (zb HB.out hw192_5), (zb HB.out hw192_6)⟩ (fun hHeld => ?_)
        clear hK K
        refine norm_ (a' := ?_) ?_ ?_
        rotate_left
        ·show Act.put _ (some 25) _ = _
         simp only [Act.put, List.setIfInBounds_toArray, List.set_cons_zero, List.set_cons_succ, zo, zp]
         rfl
        refine zr (i := 9) (N := some 26) (v := ?_) (a' := ?_) #[true, true, true, true, true, true, true, true, true, true] rfl rfl (zn HT_.out (by kernel_rfl)) (fun _ _ _ h => h) (Or.inl ⟨by rfl, ?_⟩) ?_ ?_
        rotate_left
        ·intro w'
         go_simp
         with_reducible rfl
        rotate_left
        ·simp only [Act.put, List.setIfInBounds_toArray, List.set_cons_zero, List.set_cons_succ, zo, zp]
         rfl
        refine done_ (done_of HT_.out (by kernel_rfl)) ?_
        try go_wp2
        go_roundg k1
        case measure => have := HK1.out; omega
        case rel => exact ⟨(wrap64 (x5_1 + 1)), (by first | rfl | (simp; done) | (simp [*]; done)), H', ⟨by have := HK1.out; omega⟩, ⟨by repeat (first | (with_reducible first | exact HB.out | apply ze | apply zc | apply zd) | exact HB.out)⟩⟩
       ·replace c8 := Bool.eq_false_iff.mpr c8
        subst c8
        have H1 : (some false) = some r := by rw [if_neg (show ¬ (false = true) by decide)] at H; exact H
        clear H
        have H := H1
        clear H1
        obtain rfl := Option.some.inj H
        try go_wp2
        have n0_ := Aside0.mk (zd HB.out)
        clear HB
        have HB := n0_
        clear n0_
        have p191 : 0 ≤ (x5_1 : Int) := of_decide_eq_true (by first | (with_reducible assumption) | assumption)
        have q191 : x5_1 < (l0.length : Int) := of_decide_eq_true (by first | (with_reducible assumption) | assumption)
        obtain ⟨ad191, e191, hx191_0, hx191_1, hx191_2, hx191_3, hx191_4, hx191_5, hx191_6⟩ := at_T92 HR0.out x5_1 p191 q191
        have hw191_6 := hx191_6
        have hw191_5 := hx191_5
        have hw191_4 := hx191_4
        have hw191_3 := hx191_3
        have hw191_2 := hx191_2
        have hw191_1 := hx191_1
        have hw191_0 := hx191_0
        cases e191
        replace hx191_0 := zb HB.out hx191_0
        replace hx191_1 := zb HB.out hx191_1
        replace hx191_2 := zb HB.out hx191_2
        replace hx191_3 := zb HB.out hx191_3
        replace hx191_4 := zb HB.out hx191_4
        replace hx191_5 := zb HB.out hx191_5
        replace hx191_6 := zb HB.out hx191_6
        replace p191 := eq_true p191
        replace q191 := eq_true q191
        have p192 : 0 ≤ (x5_1 : Int) := of_decide_eq_true (by first | (with_reducible assumption) | assumption)
        have q192 : x5_1 < (l1.length : Int) := of_decide_eq_true (by first | (with_reducible assumption) | assumption)
        obtain ⟨ad192, e192, hx192_0, hx192_1, hx192_2, hx192_3, hx192_4, hx192_5, hx192_6⟩ := at_T92 HR1.out x5_1 p192 q192
        have hw192_6 := hx192_6
        have hw192_5 := hx192_5
        have hw192_4 := hx192_4
        have hw192_3 := hx192_3
        have hw192_2 := hx192_2
        have hw192_1 := hx192_1
        have hw192_0 := hx192_0
        cases e192
        replace hx192_0 := zb HB.out hx192_0
        replace hx192_1 := zb HB.out hx192_1
        replace hx192_2 := zb HB.out hx192_2
        replace hx192_3 := zb HB.out hx192_3
        replace hx192_4 := zb HB.out hx192_4
        replace hx192_5 := zb HB.out hx192_5
        replace hx192_6 := zb HB.out hx192_6
        replace p192 := eq_true p192
        replace q192 := eq_true q192
        refine start_ (n := 10) (S := fun w' => w'.cell? (ad191.add ((x5_1).toNat * 7)) = some (.string ((rd_T92 l0 x5_1).f0)) ∧ w'.cell? ⟨(ad191.add ((x5_1).toNat * 7)).block, (ad191.add ((x5_1).toNat * 7)).off + 1, none⟩ = some (.string ((rd_T92 l0 x5_1).f1)) ∧ w'.cell? ⟨(ad191.add ((x5_1).toNat * 7)).block, (ad191.add ((x5_1).toNat * 7)).off + 2, none⟩ = some (.int .i64 ((rd_T92 l0 x5_1).f2)) ∧ w'.cell? ⟨(ad191.add ((x5_1).toNat * 7)).block, (ad191.add ((x5_1).toNat * 7)).off + 3, none⟩ = some (.int .i64 ((rd_T92 l0 x5_1).f3)) ∧ w'.cell? ⟨(ad191.add ((x5_1).toNat * 7)).block, (ad191.add ((x5_1).toNat * 7)).off + 4, none⟩ = some (.int .i64 ((rd_T92 l0 x5_1).f4)) ∧ w'.cell? ⟨(ad191.add ((x5_1).toNat * 7)).block, (ad191.add ((x5_1).toNat * 7)).off + 5, none⟩ = some (.int .i64 ((rd_T92 l0 x5_1).f5)) ∧ w'.cell? ⟨(ad191.add ((x5_1).toNat * 7)).block, (ad191.add ((x5_1).toNat * 7)).off + 6, none⟩ = some (.int .i64 ((rd_T92 l0 x5_1).f6)) ∧ w'.cell? (ad192.add ((x5_1).toNat * 7)) = some (.string ((rd_T92 l1 x5_1).f0)) ∧ w'.cell? ⟨(ad192.add ((x5_1).toNat * 7)).block, (ad192.add ((x5_1).toNat * 7)).off + 1, none⟩ = some (.string ((rd_T92 l1 x5_1).f1)) ∧ w'.cell? ⟨(ad192.add ((x5_1).toNat * 7)).block, (ad192.add ((x5_1).toNat * 7)).off + 2, none⟩ = some (.int .i64 ((rd_T92 l1 x5_1).f2)) ∧ w'.cell? ⟨(ad192.add ((x5_1).toNat * 7)).block, (ad192.add ((x5_1).toNat * 7)).off + 3, none⟩ = some (.int .i64 ((rd_T92 l1 x5_1).f3)) ∧ w'.cell? ⟨(ad192.add ((x5_1).toNat * 7)).block, (ad192.add ((x5_1).toNat * 7)).off + 4, none⟩ = some (.int .i64 ((rd_T92 l1 x5_1).f4)) ∧ w'.cell? ⟨(ad192.add ((x5_1).toNat * 7)).block, (ad192.add ((x5_1).toNat * 7)).off + 5, none⟩ = some (.int .i64 ((rd_T92 l1 x5_1).f5)) ∧ w'.cell? ⟨(ad192.add ((x5_1).toNat * 7)).block, (ad192.add ((x5_1).toNat * 7)).off + 6, none⟩ = some (.int .i64 ((rd_T92 l1 x5_1).f6))) (ds := []) #[false, false, false, false, false, false, false, false, false, false] (by kernel_rfl) rfl rfl ⟨(zb HB.out hw191_0), (zb HB.out hw191_1), (zb HB.out hw191_2), (zb HB.out hw191_3), (zb HB.out hw191_4), (zb HB.out hw191_5), (zb HB.out hw191_6), (zb HB.out hw192_0), (zb HB.out hw192_1), (zb HB.out hw192_2), (zb HB.out hw192_3), (zb HB.out hw192_4), (zb HB.out hw192_5), (zb HB.out hw192_6)⟩ (fun hHeld => ?_); refine with_tabW laws_eqNodeS.tab6 laws_eqNodeS.bits6 (fun HT_ HW_ => ?_)
        generalize wr.drew = w11 at HB hx191_0 hx191_1 hx191_2 hx191_3 hx191_4 hx191_5 hx191_6 hx192_0 hx192_1 hx192_2 hx192_3 hx192_4 hx192_5 hx192_6 hHeld ⊢
        refine zr (i := 0) (N := some 17) (v := ?_) (a' := ?_) #[true, false, false, false, false, false, false, false, false, false] rfl rfl (zn HT_.out (by kernel_rfl)) (fun _ _ _ h => h) (Or.inl ⟨by rfl, ?_⟩) ?_ ?_
        rotate_left
        ·intro w'
         go_simp
         with_reducible rfl
        rotate_left
        ·simp only [Act.put, List.setIfInBounds_toArray, List.set_cons_zero, List.set_cons_succ, zo, zp]
         rfl
        refine zr (i := 1) (N := some 18) (v := ?_) (a' := ?_) #[true, true, false, false, false, false, false, false, false, false] rfl rfl (zn HT_.out (by kernel_rfl)) (fun _ _ _ h => h) (Or.inl ⟨by rfl, ?_⟩) ?_ ?_
        rotate_left
        ·intro w'
         go_simp
         with_reducible rfl
        rotate_left
        ·simp only [Act.put, List.setIfInBounds_toArray, List.set_cons_zero, List.set_cons_succ, zo, zp]
         rfl
        refine zr (i := 2) (N := some 19) (v := ?_) (a' := ?_) #[true, true, true, false, false, false, false, false, false, false] rfl rfl (zn HT_.out (by kernel_rfl)) (fun _ _ _ h => h) (Or.inl ⟨by rfl, ?_⟩) ?_ ?_
        rotate_left
        ·intro w'
         go_simp
         with_reducible rfl
        rotate_left
        ·simp only [Act.put, List.setIfInBounds_toArray, List.set_cons_zero, List.set_cons_succ, zo, zp]
         rfl
        refine zr (i := 4) (N := some 21) (v := ?_) (a' := ?_) #[true, true, true, false, true, false, false, false, false, false] rfl rfl (zn HT_.out (by kernel_rfl)) (fun _ _ _ h => h) (Or.inl ⟨by rfl, ?_⟩) ?_ ?_
        rotate_left
        ·intro w'
         go_simp
         with_reducible rfl
        rotate_left
        ·simp only [Act.put, List.setIfInBounds_toArray, List.set_cons_zero, List.set_cons_succ, zo, zp]
         rfl
        refine zr (i := 5) (N := some 22) (v := ?_) (a' := ?_) #[true, true, true, false, true, true, false, false, false, false] rfl rfl (zn HT_.out (by kernel_rfl)) (fun _ _ _ h => h) (Or.inl ⟨by rfl, ?_⟩) ?_ ?_
        rotate_left
        ·intro w'
         go_simp
         with_reducible rfl
        rotate_left
        ·simp only [Act.put, List.setIfInBounds_toArray, List.set_cons_zero, List.set_cons_succ, zo, zp]
         rfl
        refine zr (i := 6) (N := some 23) (v := ?_) (a' := ?_) #[true, true, true, false, true, true, true, false, false, false] rfl rfl (zn HT_.out (by kernel_rfl)) (fun _ _ _ h => h) (Or.inl ⟨by rfl, ?_⟩) ?_ ?_
        rotate_left
        ·intro w'
         go_simp
         with_reducible rfl
        rotate_left
        ·simp only [Act.put, List.setIfInBounds_toArray, List.set_cons_zero, List.set_cons_succ, zo, zp]
         rfl
        refine take_ (i := 3) (N := some 20) (v := ?_) (a' := ?_) #[true, true, true, true, true, true, true, false, false, false] rfl rfl (zA HT_.out HW_.out (by kernel_rfl)) (fun _ _ _ h => h) (Or.inl ⟨by rfl, ?_⟩) hHeld ?_ ?_
        rotate_left
        ·rintro w' ⟨s0, s1, s2, s3, s4, s5, s6, s7, s8, s9, s10, s11, s12, s13⟩
         go_simp
         with_reducible rfl
        rotate_left
        ·simp only [Act.put, List.setIfInBounds_toArray, List.set_cons_zero, List.set_cons_succ, zo, zp]
         rfl
        refine take_ (i := 7) (N := some 24) (v := ?_) (a' := ?_) #[true, true, true, true, true, true, true, true, false, false] rfl rfl (zA HT_.out HW_.out (by kernel_rfl)) (fun _ _ _ h => h) (Or.inl ⟨by rfl, ?_⟩) hHeld ?_ ?_
        rotate_left
        ·rintro w' ⟨s0, s1, s2, s3, s4, s5, s6, s7, s8, s9, s10, s11, s12, s13⟩
         go_simp
         with_reducible rfl
        rotate_left
        ·simp only [Act.put, List.setIfInBounds_toArray, List.set_cons_zero, List.set_cons_succ, zo, zp]
         rfl
        refine one_ (i := 8) (N := some 25) #[true, true, true, true, true, true, true, true, true, false] rfl rfl (one_of HT_.out (by kernel_rfl)) (by decide) (fun K hK => ?_)
        refine goes_ Tryd.func162 (by kernel_rfl) rfl #[.agg #[.string ((rd_T92 l0 x5_1).f0), .string ((rd_T92 l0 x5_1).f1), .int .i64 ((rd_T92 l0 x5_1).f2), .int .i64 ((rd_T92 l0 x5_1).f3), .int .i64 ((rd_T92 l0 x5_1).f4), .int .i64 ((rd_T92 l0 x5_1).f5), .int .i64 ((rd_T92 l0 x5_1).f6)], .agg #[.string ((rd_T92 l1 x5_1).f0), .string ((rd_T92 l1 x5_1).f1), .int .i64 ((rd_T92 l1 x5_1).f2), .int .i64 ((rd_T92 l1 x5_1).f3), .int .i64 ((rd_T92 l1 x5_1).f4), .int .i64 ((rd_T92 l1 x5_1).f5), .int .i64 ((rd_T92 l1 x5_1).f6)]] (by rfl) rfl rfl (by (try simp only [List.map_toArray, List.map_cons, List.map_nil]); first | done | rfl | (simp only [List.length_drop, List.length_take]; rfl)) ?_
        with_reducible refine (laws_eqNode.calls ((rd_T92 l0 x5_1).f0) ((rd_T92 l0 x5_1).f1) ((rd_T92 l0 x5_1).f2) ((rd_T92 l0 x5_1).f3) ((rd_T92 l0 x5_1).f4) ((rd_T92 l0 x5_1).f5) ((rd_T92 l0 x5_1).f6) ((rd_T92 l1 x5_1).f0) ((rd_T92 l1 x5_1).f1) ((rd_T92 l1 x5_1).f2) ((rd_T92 l1 x5_1).f3) ((rd_T92 l1 x5_1).f4) ((rd_T92 l1 x5_1).f5) ((rd_T92 l1 x5_1).f6) false _ A7.out).mono ?_
        rintro e w12 ⟨rfl, hb⟩
        refine ⟨_, rfl, ?_⟩
        have n0_ := Aside0.mk (zl (by repeat (first | (with_reducible first | exact HB.out | apply ze | apply zc | apply zd) | exact HB.out)) hb)
        clear HB
        have HB := n0_
        clear n0_
        (try clear hb)
        (try clear hb2)
        (try clear hk)
        (try clear hi)
        refine hK.out _ _ ⟨(zb HB.out hw191_0), (zb HB.out hw191_1), (zb HB.out hw191_2), (zb HB.out hw191_3), (zb HB.out hw191_4), (zb HB.out hw191_5), (zb HB.out hw191_6), (zb HB.out hw192_0), (zb HB.out hw192_1), (zb HB.out hw192_2), (zb HB.out hw192_3), (zb HB.out hw192_4), (zb HB.out hw192_5), (zb HB.out hw192_6)⟩ (fun hHeld => ?_)
        clear hK K
        refine norm_ (a' := ?_) ?_ ?_
        rotate_left
        ·show Act.put _ (some 25) _ = _
         simp only [Act.put, List.setIfInBounds_toArray, List.set_cons_zero, List.set_cons_succ, zo, zp]
         rfl
        refine zr (i := 9) (N := some 26) (v := ?_) (a' := ?_) #[true, true, true, true, true, true, true, true, true, true] rfl rfl (zn HT_.out (by kernel_rfl)) (fun _ _ _ h => h) (Or.inl ⟨by rfl, ?_⟩) ?_ ?_
        rotate_left
        ·intro w'
         go_simp
         with_reducible rfl
        rotate_left
        ·simp only [Act.put, List.setIfInBounds_toArray, List.set_cons_zero, List.set_cons_succ, zo, zp]
         rfl
        refine done_ (done_of HT_.out (by kernel_rfl)) ?_
        try go_wp2
        go_ret
        exact ⟨by first | rfl | (simp [errW_none, errW_some] <;> rfl) | (simp [*, errW_none, errW_some] <;> rfl), by repeat (first | (with_reducible first | exact HB.out | apply ze | apply zc | apply zd) | exact HB.out)⟩
      ·rw [if_neg c6] at H
       exact absurd H (by simp)
     ·rw [if_neg c5] at H
      exact absurd H (by simp)
    ·rw [if_neg c4] at H
     have c4b0 : decide (x5_1 < (l0.length : Int)) = false := decide_eq_false c4
     clear c4
     obtain rfl := Option.some.inj H
     go_wp2
     go_ret
     exact ⟨by first | rfl | (simp [errW_none, errW_some] <;> rfl) | (simp [*, errW_none, errW_some] <;> rfl), by repeat (first | (with_reducible first | exact HB.out | apply ze | apply zc | apply zd) | exact HB.out)⟩
 ·rw [if_neg c3] at H
  have c3b0 : ((l0.length : Int) == (l1.length : Int)) = false := beq_eq_false_iff_ne.mpr c3
  have c3b1 : ((l0.length : Int) != (l1.length : Int)) = true := bne_iff_ne.mpr c3
  have c3b2 : (l0.length == l1.length) = false := by first | simpa using c3 | (simp at c3 ⊢; omega)
  obtain rfl := Option.some.inj H
  go_enter Tryd.func99, Tryd.ntmps99
  go_wp2
  go_ret
  exact ⟨by first | rfl | (simp [errW_none, errW_some] <;> rfl) | (simp [*, errW_none, errW_some] <;> rfl), by repeat (first | (with_reducible first | exact HB.out | apply ze | apply zc | apply zd) | exact HB.out)⟩

def laws_eqTree.f (k : Nat) (l0_0 : List (S92)) (l1_0 : List (S92)) : Option (Bool) := (laws_eqNodeS.f k l0_0 l1_0).bind fun t196 => (if t196 = true then (some true) else (some false))
theorem laws_eqTree.mono : ∀ a0 a1 k, LeO (laws_eqTree.f k a0 a1) (laws_eqTree.f (k + 1) a0 a1) := by
 intro a0 a1 k
 unfold laws_eqTree.f
 repeat' first
   | (with_reducible exact laws_eqNodeS.mono _ _ _)
   | (with_reducible exact LeO.refl _)
   | (with_reducible exact LeO.none _)
   | (with_reducible refine LeO.ite ?_ ?_)
   | (with_reducible refine LeO.bind ?_ (fun _ => ?_))
   | exact laws_eqNodeS.mono _ _ _
   | exact LeO.none _
   | refine LeO.ite ?_ ?_
   | refine LeO.bind ?_ (fun _ => ?_)
set_option maxHeartbeats 8000000 in
set_option maxRecDepth 100000 in
theorem laws_eqTree.calls (k : Nat) (A0_0 : Option Addr) (c0_0 : Nat) (l0_0 : List (S92)) (A1_0 : Option Addr) (c1_0 : Nat) (l1_0 : List (S92)) (r : Bool) (w : World) (hr0_0 : Kd.C k92 w A0_0 l0_0.length l0_0) (hc0_0 : l0_0.length ≤ c0_0) (hr1_0 : Kd.C k92 w A1_0 l1_0.length l1_0) (hc1_0 : l1_0.length ≤ c1_0) (h : laws_eqTree.f k l0_0 l1_0 = some r) :
  Calls Tryd.prog 35 #[.agg #[.slice A0_0 l0_0.length c0_0], .agg #[.slice A1_0 l1_0.length c1_0]] w fun e w' => e = .returned (.bool r) ∧ Below w.heap.size w w' := by
 have hu25 := Tryd.underlying25
 have HR0_0 := Aside0.mk hr0_0
 have HC0_0 := Aside0.mk hc0_0
 clear hr0_0 hc0_0
 have HR1_0 := Aside0.mk hr1_0
 have HC1_0 := Aside0.mk hc1_0
 clear hr1_0 hc1_0
 have HB := Aside0.mk (Below.refl w.heap.size w)
 have H : ((laws_eqNodeS.f k l0_0 l1_0).bind fun t196 => (if t196 = true then (some true) else (some false))) = some r := h
 clear h
 replace H := Option.bind_eq_some_iff.mp H
 obtain ⟨t196, A30, H⟩ := H
 replace H : (if t196 = true then (some true) else (some false)) = some r := H
 have A3 := Aside0.mk A30
 clear A30
 by_cases c4 : t196 = true
 ·subst c4
  have H1 : (some true) = some r := by rw [if_pos rfl] at H; exact H
  clear H
  have H := H1
  clear H1
  obtain rfl := Option.some.inj H
  go_enter Tryd.func35, Tryd.ntmps35
  go_wp2_with (first | ((with_reducible refine zv (N := 2) rfl ?_); refine zw ?hg (N := 2) ?hd (cs := #[.slice A0_0 l0_0.length c0_0]) (t := 25) ?hr ?_; (case hd => rfl); (case hg => rfl); (case hr => first | (go_simp; done) | (go_simp; rfl)); intro zC hg w5 hbox hb; have n0_ := Aside0.mk (zl (by repeat (first | (with_reducible first | exact HB.out | apply ze | apply zc | apply zd) | exact HB.out)) hb); have n1_ := Aside0.mk (hbox); have n2_ := Aside0.mk ((by rw [hg]; exact (zm (by repeat (first | (with_reducible first | exact HB.out | apply ze | apply zc | apply zd) | exact HB.out))) : w.heap.size ≤ zC)); have n3_ := Aside0.mk ((by rw [hg]; exact (zm (by repeat (first | (with_reducible first | exact HB.out | apply ze | apply zc | apply zd) | exact HB.out))) : w.heap.size ≤ zC)); clear HB; have HB := n0_; have zB := n1_; have GW194 := n2_; have zE := n3_; clear n0_ n1_ n2_ n3_; clear hb hbox hg) | ((with_reducible refine zv (N := 3) rfl ?_); refine zw ?hg (N := 3) ?hd (cs := #[.slice A1_0 l1_0.length c1_0]) (t := 25) ?hr ?_; (case hd => rfl); (case hg => rfl); (case hr => first | (go_simp; done) | (go_simp; rfl)); intro zD hg w6 hbox hb; have n0_ := Aside0.mk (zt (g := zC) (o := .cells #[.slice A0_0 l0_0.length c0_0] 25 (0, 0)) (by (with_reducible repeat (first | refine zi ?_ _ | refine zk ?_ | refine zh ?_ _)); exact zB.out) hb); have n1_ := Aside0.mk (zl (by repeat (first | (with_reducible first | exact HB.out | apply ze | apply zc | apply zd | refine zj ?_ zE.out) | exact HB.out)) hb); have n2_ := Aside0.mk (hbox); have n3_ := Aside0.mk ((by rw [hg]; exact (zm (by repeat (first | (with_reducible first | exact HB.out | apply ze | apply zc | apply zd | refine zj ?_ zE.out) | exact HB.out))) : w.heap.size ≤ zD)); have n4_ := Aside0.mk ((by rw [hg]; exact (zm (by repeat (first | (with_reducible first | exact HB.out | apply ze | apply zc | apply zd | refine zj ?_ zE.out) | exact HB.out))) : w.heap.size ≤ zD)); have n5_ := Aside0.mk ((by rw [hg]; exact Nat.ne_of_lt (zy (g := zC) (o := .cells #[.slice A0_0 l0_0.length c0_0] 25 (0, 0)) (by (with_reducible repeat (first | refine zi ?_ _ | refine zk ?_ | refine zh ?_ _)); exact zB.out)) : zC ≠ zD)); have n6_ := Aside0.mk ((by rw [hg]; exact Nat.ne_of_gt (zy (g := zC) (o := .cells #[.slice A0_0 l0_0.length c0_0] 25 (0, 0)) (by (with_reducible repeat (first | refine zi ?_ _ | refine zk ?_ | refine zh ?_ _)); exact zB.out)) : zD ≠ zC)); clear zB; clear HB; have zB := n0_; have HB := n1_; have zF := n2_; have GW195 := n3_; have zI := n4_; have zG := n5_; have zH := n6_; clear n0_ n1_ n2_ n3_ n4_ n5_ n6_; clear hb hbox hg; have zT := zG.out; have zU := zH.out; have zN : w6.cell? ⟨zC, 0, none⟩ = some (.slice A0_0 l0_0.length c0_0) := (zg zB.out 0).trans rfl; have zO := zf zB.out 0; have zP : w6.cell? ⟨zD, 0, none⟩ = some (.slice A1_0 l1_0.length c1_0) := (zg zF.out 0).trans rfl; have zQ := zf zF.out 0) | ((with_reducible refine zq (f := 99) rfl ?_); refine zz (some 9) rfl rfl Tryd.func99 (by kernel_rfl) rfl #[.slice A0_0 l0_0.length c0_0, .slice A1_0 l1_0.length c1_0] rfl (by (try simp only [List.map_toArray, List.map_cons, List.map_nil]); first | done | rfl | (simp only [List.length_drop, List.length_take]; rfl)) ?_; (with_reducible refine (laws_eqNodeS.calls k _ _ l0_0 _ _ l1_0 true _ ?side1 ?side2 ?side3 ?side4 A3.out).mono ?_); (case side1 => repeat (first | exact (Kd.C_below HR0_0.out HB.out) | (with_reducible refine Kd.C_alloc ?_ _) | (with_reducible refine Kd.C_drewN ?_ _) | (with_reducible refine Kd.C_drew ?_))); (case side2 => exact HC0_0.out); (case side3 => repeat (first | exact (Kd.C_below HR1_0.out HB.out) | (with_reducible refine Kd.C_alloc ?_ _) | (with_reducible refine Kd.C_drewN ?_ _) | (with_reducible refine Kd.C_drew ?_))); (case side4 => exact HC1_0.out); rintro e w10 ⟨rfl, hb⟩; refine ⟨_, rfl, ?_⟩; have n0_ := Aside0.mk (zt (g := zC) (o := .cells #[.slice A0_0 l0_0.length c0_0] 25 (0, 0)) (by (with_reducible repeat (first | refine zi ?_ _ | refine zk ?_ | refine zh ?_ _)); exact zB.out) hb); have n1_ := Aside0.mk (zt (g := zD) (o := .cells #[.slice A1_0 l1_0.length c1_0] 25 (0, 0)) (by (with_reducible repeat (first | refine zi ?_ _ | refine zk ?_ | refine zh ?_ _)); exact zF.out) hb); have n2_ := Aside0.mk (zl (by repeat (first | (with_reducible first | exact HB.out | apply ze | apply zc | apply zd | refine zj ?_ zE.out | refine zj ?_ zI.out) | exact HB.out)) hb); clear zB; clear zF; clear HB; have zB := n0_; have zF := n1_; have HB := n2_; clear n0_ n1_ n2_; (try clear hb); (try clear hb2); (try clear hk); (try clear hi)))
  go_ret
  exact ⟨by first | rfl | (simp [errW_none, errW_some] <;> rfl) | (simp [*, errW_none, errW_some] <;> rfl), by repeat (first | (with_reducible first | exact HB.out | apply ze | apply zc | apply zd | refine zj ?_ zE.out | refine zj ?_ zI.out) | exact HB.out)⟩
 ·replace c4 := Bool.eq_false_iff.mpr c4
  subst c4
  have H1 : (some false) = some r := by rw [if_neg (show ¬ (false = true) by decide)] at H; exact H
  clear H
  have H := H1
  clear H1
  obtain rfl := Option.some.inj H
  go_enter Tryd.func35, Tryd.ntmps35
  go_wp2_with (first | ((with_reducible refine zv (N := 2) rfl ?_); refine zw ?hg (N := 2) ?hd (cs := #[.slice A0_0 l0_0.length c0_0]) (t := 25) ?hr ?_; (case hd => rfl); (case hg => rfl); (case hr => first | (go_simp; done) | (go_simp; rfl)); intro zC hg w11 hbox hb; have n0_ := Aside0.mk (zl (by repeat (first | (with_reducible first | exact HB.out | apply ze | apply zc | apply zd) | exact HB.out)) hb); have n1_ := Aside0.mk (hbox); have n2_ := Aside0.mk ((by rw [hg]; exact (zm (by repeat (first | (with_reducible first | exact HB.out | apply ze | apply zc | apply zd) | exact HB.out))) : w.heap.size ≤ zC)); have n3_ := Aside0.mk ((by rw [hg]; exact (zm (by repeat (first | (with_reducible first | exact HB.out | apply ze | apply zc | apply zd) | exact HB.out))) : w.heap.size ≤ zC)); clear HB; have HB := n0_; have zB := n1_; have GW194 := n2_; have zE := n3_; clear n0_ n1_ n2_ n3_; clear hb hbox hg) | ((with_reducible refine zv (N := 3) rfl ?_); refine zw ?hg (N := 3) ?hd (cs := #[.slice A1_0 l1_0.length c1_0]) (t := 25) ?hr ?_; (case hd => rfl); (case hg => rfl); (case hr => first | (go_simp; done) | (go_simp; rfl)); intro zD hg w12 hbox hb; have n0_ := Aside0.mk (zt (g := zC) (o := .cells #[.slice A0_0 l0_0.length c0_0] 25 (0, 0)) (by (with_reducible repeat (first | refine zi ?_ _ | refine zk ?_ | refine zh ?_ _)); exact zB.out) hb); have n1_ := Aside0.mk (zl (by repeat (first | (with_reducible first | exact HB.out | apply ze | apply zc | apply zd | refine zj ?_ zE.out) | exact HB.out)) hb); have n2_ := Aside0.mk (hbox); have n3_ := Aside0.mk ((by rw [hg]; exact (zm (by repeat (first | (with_reducible first | exact HB.out | apply ze | apply zc | apply zd | refine zj ?_ zE.out) | exact HB.out))) : w.heap.size ≤ zD)); have n4_ := Aside0.mk ((by rw [hg]; exact (zm (by repeat (first | (with_reducible first | exact HB.out | apply ze | apply zc | apply zd | refine zj ?_ zE.out) | exact HB.out))) : w.heap.size ≤ zD)); have n5_ := Aside0.mk ((by rw [hg]; exact Nat.ne_of_lt (zy (g := zC) (o := .cells #[.slice A0_0 l0_0.length c0_0] 25 (0, 0)) (by (with_reducible repeat (first | refine zi ?_ _ | refine zk ?_ | refine zh ?_ _)); exact zB.out)) : zC ≠ zD)); have n6_ := Aside0.mk ((by rw [hg]; exact Nat.ne_of_gt (zy (g := zC) (o := .cells #[.slice A0_0 l0_0.length c0_0] 25 (0, 0)) (by (with_reducible repeat (first | refine zi ?_ _ | refine zk ?_ | refine zh ?_ _)); exact zB.out)) : zD ≠ zC)); clear zB; clear HB; have zB := n0_; have HB := n1_; have zF := n2_; have GW195 := n3_; have zI := n4_; have zG := n5_; have zH := n6_; clear n0_ n1_ n2_ n3_ n4_ n5_ n6_; clear hb hbox hg; have zR := zG.out; have zS := zH.out; have zJ : w12.cell? ⟨zC, 0, none⟩ = some (.slice A0_0 l0_0.length c0_0) := (zg zB.out 0).trans rfl; have zK := zf zB.out 0; have zL : w12.cell? ⟨zD, 0, none⟩ = some (.slice A1_0 l1_0.length c1_0) := (zg zF.out 0).trans rfl; have zM := zf zF.out 0) | ((with_reducible refine zq (f := 99) rfl ?_); refine zz (some 9) rfl rfl Tryd.func99 (by kernel_rfl) rfl #[.slice A0_0 l0_0.length c0_0, .slice A1_0 l1_0.length c1_0] rfl (by (try simp only [List.map_toArray, List.map_cons, List.map_nil]); first | done | rfl | (simp only [List.length_drop, List.length_take]; rfl)) ?_; (with_reducible refine (laws_eqNodeS.calls k _ _ l0_0 _ _ l1_0 false _ ?side1 ?side2 ?side3 ?side4 A3.out).mono ?_); (case side1 => repeat (first | exact (Kd.C_below HR0_0.out HB.out) | (with_reducible refine Kd.C_alloc ?_ _) | (with_reducible refine Kd.C_drewN ?_ _) | (with_reducible refine Kd.C_drew ?_))); (case side2 => exact HC0_0.out); (case side3 => repeat (first | exact (Kd.C_below HR1_0.out HB.out) | (with_reducible refine Kd.C_alloc ?_ _) | (with_reducible refine Kd.C_drewN ?_ _) | (with_reducible refine Kd.C_drew ?_))); (case side4 => exact HC1_0.out); rintro e w16 ⟨rfl, hb⟩; refine ⟨_, rfl, ?_⟩; have n0_ := Aside0.mk (zt (g := zC) (o := .cells #[.slice A0_0 l0_0.length c0_0] 25 (0, 0)) (by (with_reducible repeat (first | refine zi ?_ _ | refine zk ?_ | refine zh ?_ _)); exact zB.out) hb); have n1_ := Aside0.mk (zt (g := zD) (o := .cells #[.slice A1_0 l1_0.length c1_0] 25 (0, 0)) (by (with_reducible repeat (first | refine zi ?_ _ | refine zk ?_ | refine zh ?_ _)); exact zF.out) hb); have n2_ := Aside0.mk (zl (by repeat (first | (with_reducible first | exact HB.out | apply ze | apply zc | apply zd | refine zj ?_ zE.out | refine zj ?_ zI.out) | exact HB.out)) hb); clear zB; clear zF; clear HB; have zB := n0_; have zF := n1_; have HB := n2_; clear n0_ n1_ n2_; (try clear hb); (try clear hb2); (try clear hk); (try clear hi)))
  go_ret
  exact ⟨by first | rfl | (simp [errW_none, errW_some] <;> rfl) | (simp [*, errW_none, errW_some] <;> rfl), by repeat (first | (with_reducible first | exact HB.out | apply ze | apply zc | apply zd | refine zj ?_ zE.out | refine zj ?_ zI.out) | exact HB.out)⟩

def laws_eqTreeResult.f (k : Nat) (a0_0 : Bool) (l0_1 : List (S92)) (a1_0 : Bool) (l1_1 : List (S92)) : Option (Bool) := if (a0_0 != a1_0) = true then (some false) else ((laws_eqTree.f k l0_1 l1_1).bind fun t199 => (if t199 = true then (some true) else (some false)))
theorem laws_eqTreeResult.mono : ∀ a0 a1 a2 a3 k, LeO (laws_eqTreeResult.f k a0 a1 a2 a3) (laws_eqTreeResult.f (k + 1) a0 a1 a2 a3) := by
 intro a0 a1 a2 a3 k
 unfold laws_eqTreeResult.f
 repeat' first
   | (with_reducible exact laws_eqTree.mono _ _ _)
   | (with_reducible exact LeO.refl _)
   | (with_reducible exact LeO.none _)
   | (with_reducible refine LeO.ite ?_ ?_)
   | (with_reducible refine LeO.bind ?_ (fun _ => ?_))
   | exact laws_eqTree.mono _ _ _
   | exact LeO.none _
   | refine LeO.ite ?_ ?_
   | refine LeO.bind ?_ (fun _ => ?_)
set_option maxHeartbeats 8000000 in
set_option maxRecDepth 100000 in
theorem laws_eqTreeResult.calls (k : Nat) (a0_0 : Bool) (A0_1 : Option Addr) (c0_1 : Nat) (l0_1 : List (S92)) (a1_0 : Bool) (A1_1 : Option Addr) (c1_1 : Nat) (l1_1 : List (S92)) (r : Bool) (w : World) (hr0_1 : Kd.C k92 w A0_1 l0_1.length l0_1) (hc0_1 : l0_1.length ≤ c0_1) (hr1_1 : Kd.C k92 w A1_1 l1_1.length l1_1) (hc1_1 : l1_1.length ≤ c1_1) (h : laws_eqTreeResult.f k a0_0 l0_1 a1_0 l1_1 = some r) :
  Calls Tryd.prog 14 #[.agg #[.bool a0_0, .slice A0_1 l0_1.length c0_1], .agg #[.bool a1_0, .slice A1_1 l1_1.length c1_1]] w fun e w' => e = .returned (.bool r) ∧ Below w.heap.size w w' := by
 have hu27 := Tryd.underlying27
 have hu25 := Tryd.underlying25
 have HR0_1 := Aside0.mk hr0_1
 have HC0_1 := Aside0.mk hc0_1
 clear hr0_1 hc0_1
 have HR1_1 := Aside0.mk hr1_1
 have HC1_1 := Aside0.mk hc1_1
 clear hr1_1 hc1_1
 have HB := Aside0.mk (Below.refl w.heap.size w)
 have H : (if (a0_0 != a1_0) = true then (some false) else ((laws_eqTree.f k l0_1 l1_1).bind fun t199 => (if t199 = true then (some true) else (some false)))) = some r := h
 clear h
 by_cases c3 : (a0_0 != a1_0) = true
 ·rw [if_pos c3] at H
  have c3b0 : (a0_0 != a1_0) = true := c3
  (try (have c3b1 : decide (a0_0 = a1_0) = false := by simpa using c3))
  (try (have c3b2 : (a0_0 == a1_0) = false := by simpa using c3))
  (try (have c3b3 : ¬ (a0_0 = a1_0) := by simpa using c3))
  clear c3
  obtain rfl := Option.some.inj H
  go_enter Tryd.func14, Tryd.ntmps14
  go_wp2_with (first | ((with_reducible refine zv (N := 2) rfl ?_); refine zw ?hg (N := 2) ?hd (cs := #[.bool a0_0, .slice A0_1 l0_1.length c0_1]) (t := 27) ?hr ?_; (case hd => rfl); (case hg => rfl); (case hr => first | (go_simp; done) | (go_simp; rfl)); intro zC hg w4 hbox hb; have n0_ := Aside0.mk (zl (by repeat (first | (with_reducible first | exact HB.out | apply ze | apply zc | apply zd) | exact HB.out)) hb); have n1_ := Aside0.mk (hbox); have n2_ := Aside0.mk ((by rw [hg]; exact (zm (by repeat (first | (with_reducible first | exact HB.out | apply ze | apply zc | apply zd) | exact HB.out))) : w.heap.size ≤ zC)); have n3_ := Aside0.mk ((by rw [hg]; exact (zm (by repeat (first | (with_reducible first | exact HB.out | apply ze | apply zc | apply zd) | exact HB.out))) : w.heap.size ≤ zC)); clear HB; have HB := n0_; have zB := n1_; have GW197 := n2_; have zF := n3_; clear n0_ n1_ n2_ n3_; clear hb hbox hg) | ((with_reducible refine zv (N := 3) rfl ?_); refine zw ?hg (N := 3) ?hd (cs := #[.bool a1_0, .slice A1_1 l1_1.length c1_1]) (t := 27) ?hr ?_; (case hd => rfl); (case hg => rfl); (case hr => first | (go_simp; done) | (go_simp; rfl)); intro zD hg w5 hbox hb; have n0_ := Aside0.mk (zt (g := zC) (o := .cells #[.bool a0_0, .slice A0_1 l0_1.length c0_1] 27 (0, 0)) (by (with_reducible repeat (first | refine zi ?_ _ | refine zk ?_ | refine zh ?_ _)); exact zB.out) hb); have n1_ := Aside0.mk (zl (by repeat (first | (with_reducible first | exact HB.out | apply ze | apply zc | apply zd | refine zj ?_ zF.out) | exact HB.out)) hb); have n2_ := Aside0.mk (hbox); have n3_ := Aside0.mk ((by rw [hg]; exact (zm (by repeat (first | (with_reducible first | exact HB.out | apply ze | apply zc | apply zd | refine zj ?_ zF.out) | exact HB.out))) : w.heap.size ≤ zD)); have n4_ := Aside0.mk ((by rw [hg]; exact (zm (by repeat (first | (with_reducible first | exact HB.out | apply ze | apply zc | apply zd | refine zj ?_ zF.out) | exact HB.out))) : w.heap.size ≤ zD)); have n5_ := Aside0.mk ((by rw [hg]; exact Nat.ne_of_lt (zy (g := zC) (o := .cells #[.bool a0_0, .slice A0_1 l0_1.length c0_1] 27 (0, 0)) (by (with_reducible repeat (first | refine zi ?_ _ | refine zk ?_ | refine zh ?_ _)); exact zB.out)) : zC ≠ zD)); have n6_ := Aside0.mk ((by rw [hg]; exact Nat.ne_of_gt (zy (g := zC) (o := .cells #[.bool a0_0, .slice A0_1 l0_1.length c0_1] 27 (0, 0)) (by (with_reducible repeat (first | refine zi ?_ _ | refine zk ?_ | refine zh ?_ _)); exact zB.out)) : zD ≠ zC)); clear zB; clear HB; have zB := n0_; have HB := n1_; have zE := n2_; have GW198 := n3_; have zI := n4_; have zG := n5_; have zH := n6_; clear n0_ n1_ n2_ n3_ n4_ n5_ n6_; clear hb hbox hg; have zlb := zG.out; have zmb := zH.out; have zZ : w5.cell? ⟨zC, 0, none⟩ = some (.bool a0_0) := (zg zB.out 0).trans rfl; have zab : w5.cell? ⟨zC, 1, none⟩ = some (.slice A0_1 l0_1.length c0_1) := (zg zB.out 1).trans rfl; have zbb := zf zB.out 0; have zcb := zf zB.out 1; have zdb : w5.cell? ⟨zD, 0, none⟩ = some (.bool a1_0) := (zg zE.out 0).trans rfl; have zeb : w5.cell? ⟨zD, 1, none⟩ = some (.slice A1_1 l1_1.length c1_1) := (zg zE.out 1).trans rfl; have zfb := zf zE.out 0; have zgb := zf zE.out 1))
  go_ret
  exact ⟨by first | rfl | (simp [errW_none, errW_some] <;> rfl) | (simp [*, errW_none, errW_some] <;> rfl), by repeat (first | (with_reducible first | exact HB.out | apply ze | apply zc | apply zd | refine zj ?_ zF.out | refine zj ?_ zI.out) | exact HB.out)⟩
 ·rw [if_neg c3] at H
  have c3b0 : (a0_0 != a1_0) = false := by simpa using c3
  (try (have c3b1 : decide (a0_0 = a1_0) = true := by simpa using c3))
  (try (have c3b2 : (a0_0 == a1_0) = true := by simpa using c3))
  clear c3
  replace H := Option.bind_eq_some_iff.mp H
  obtain ⟨t199, A90, H⟩ := H
  replace H : (if t199 = true then (some true) else (some false)) = some r := H
  have A9 := Aside0.mk A90
  clear A90
  by_cases c10 : t199 = true
  ·subst c10
   have H1 : (some true) = some r := by rw [if_pos rfl] at H; exact H
   clear H
   have H := H1
   clear H1
   obtain rfl := Option.some.inj H
   go_enter Tryd.func14, Tryd.ntmps14
   go_wp2_with (first | ((with_reducible refine zv (N := 2) rfl ?_); refine zw ?hg (N := 2) ?hd (cs := #[.bool a0_0, .slice A0_1 l0_1.length c0_1]) (t := 27) ?hr ?_; (case hd => rfl); (case hg => rfl); (case hr => first | (go_simp; done) | (go_simp; rfl)); intro zC hg w11 hbox hb; have n0_ := Aside0.mk (zl (by repeat (first | (with_reducible first | exact HB.out | apply ze | apply zc | apply zd) | exact HB.out)) hb); have n1_ := Aside0.mk (hbox); have n2_ := Aside0.mk ((by rw [hg]; exact (zm (by repeat (first | (with_reducible first | exact HB.out | apply ze | apply zc | apply zd) | exact HB.out))) : w.heap.size ≤ zC)); have n3_ := Aside0.mk ((by rw [hg]; exact (zm (by repeat (first | (with_reducible first | exact HB.out | apply ze | apply zc | apply zd) | exact HB.out))) : w.heap.size ≤ zC)); clear HB; have HB := n0_; have zB := n1_; have GW197 := n2_; have zF := n3_; clear n0_ n1_ n2_ n3_; clear hb hbox hg) | ((with_reducible refine zv (N := 3) rfl ?_); refine zw ?hg (N := 3) ?hd (cs := #[.bool a1_0, .slice A1_1 l1_1.length c1_1]) (t := 27) ?hr ?_; (case hd => rfl); (case hg => rfl); (case hr => first | (go_simp; done) | (go_simp; rfl)); intro zD hg w12 hbox hb; have n0_ := Aside0.mk (zt (g := zC) (o := .cells #[.bool a0_0, .slice A0_1 l0_1.length c0_1] 27 (0, 0)) (by (with_reducible repeat (first | refine zi ?_ _ | refine zk ?_ | refine zh ?_ _)); exact zB.out) hb); have n1_ := Aside0.mk (zl (by repeat (first | (with_reducible first | exact HB.out | apply ze | apply zc | apply zd | refine zj ?_ zF.out) | exact HB.out)) hb); have n2_ := Aside0.mk (hbox); have n3_ := Aside0.mk ((by rw [hg]; exact (zm (by repeat (first | (with_reducible first | exact HB.out | apply ze | apply zc | apply zd | refine zj ?_ zF.out) | exact HB.out))) : w.heap.size ≤ zD)); have n4_ := Aside0.mk ((by rw [hg]; exact (zm (by repeat (first | (with_reducible first | exact HB.out | apply ze | apply zc | apply zd | refine zj ?_ zF.out) | exact HB.out))) : w.heap.size ≤ zD)); have n5_ := Aside0.mk ((by rw [hg]; exact Nat.ne_of_lt (zy (g := zC) (o := .cells #[.bool a0_0, .slice A0_1 l0_1.length c0_1] 27 (0, 0)) (by (with_reducible repeat (first | refine zi ?_ _ | refine zk ?_ | refine zh ?_ _)); exact zB.out)) : zC ≠ zD)); have n6_ := Aside0.mk ((by rw [hg]; exact Nat.ne_of_gt (zy (g := zC) (o := .cells #[.bool a0_0, .slice A0_1 l0_1.length c0_1] 27 (0, 0)) (by (with_reducible repeat (first | refine zi ?_ _ | refine zk ?_ | refine zh ?_ _)); exact zB.out)) : zD ≠ zC)); clear zB; clear HB; have zB := n0_; have HB := n1_; have zE := n2_; have GW198 := n3_; have zI := n4_; have zG := n5_; have zH := n6_; clear n0_ n1_ n2_ n3_ n4_ n5_ n6_; clear hb hbox hg; have zhb := zG.out; have zib := zH.out; have zJ : w12.cell? ⟨zC, 0, none⟩ = some (.bool a0_0) := (zg zB.out 0).trans rfl; have zK : w12.cell? ⟨zC, 1, none⟩ = some (.slice A0_1 l0_1.length c0_1) := (zg zB.out 1).trans rfl; have zL := zf zB.out 0; have zM := zf zB.out 1; have zN : w12.cell? ⟨zD, 0, none⟩ = some (.bool a1_0) := (zg zE.out 0).trans rfl; have zO : w12.cell? ⟨zD, 1, none⟩ = some (.slice A1_1 l1_1.length c1_1) := (zg zE.out 1).trans rfl; have zP := zf zE.out 0; have zQ := zf zE.out 1) | ((with_reducible refine zq (f := 35) rfl ?_); refine zz (some 14) rfl rfl Tryd.func35 (by kernel_rfl) rfl #[.agg #[.slice A0_1 l0_1.length c0_1], .agg #[.slice A1_1 l1_1.length c1_1]] rfl (by (try simp only [List.map_toArray, List.map_cons, List.map_nil]); first | done | rfl | (simp only [List.length_drop, List.length_take]; rfl)) ?_; (with_reducible refine (laws_eqTree.calls k _ _ l0_1 _ _ l1_1 true _ ?side1 ?side2 ?side3 ?side4 A9.out).mono ?_); (case side1 => repeat (first | exact (Kd.C_below HR0_1.out HB.out) | (with_reducible refine Kd.C_alloc ?_ _) | (with_reducible refine Kd.C_drewN ?_ _) | (with_reducible refine Kd.C_drew ?_))); (case side2 => exact HC0_1.out); (case side3 => repeat (first | exact (Kd.C_below HR1_1.out HB.out) | (with_reducible refine Kd.C_alloc ?_ _) | (with_reducible refine Kd.C_drewN ?_ _) | (with_reducible refine Kd.C_drew ?_))); (case side4 => exact HC1_1.out); rintro e w16 ⟨rfl, hb⟩; refine ⟨_, rfl, ?_⟩; have n0_ := Aside0.mk (zt (g := zC) (o := .cells #[.bool a0_0, .slice A0_1 l0_1.length c0_1] 27 (0, 0)) (by (with_reducible repeat (first | refine zi ?_ _ | refine zk ?_ | refine zh ?_ _)); exact zB.out) hb); have n1_ := Aside0.mk (zt (g := zD) (o := .cells #[.bool a1_0, .slice A1_1 l1_1.length c1_1] 27 (0, 0)) (by (with_reducible repeat (first | refine zi ?_ _ | refine zk ?_ | refine zh ?_ _)); exact zE.out) hb); have n2_ := Aside0.mk (zl (by repeat (first | (with_reducible first | exact HB.out | apply ze | apply zc | apply zd | refine zj ?_ zF.out | refine zj ?_ zI.out) | exact HB.out)) hb); clear zB; clear zE; clear HB; have zB := n0_; have zE := n1_; have HB := n2_; clear n0_ n1_ n2_; (try clear hb); (try clear hb2); (try clear hk); (try clear hi)))
   go_ret
   exact ⟨by first | rfl | (simp [errW_none, errW_some] <;> rfl) | (simp [*, errW_none, errW_some] <;> rfl), by repeat (first | (with_reducible first | exact HB.out | apply ze | apply zc | apply zd | refine zj ?_ zF.out | refine zj ?_ zI.out) | exact HB.out)⟩
  ·replace c10 := Bool.eq_false_iff.mpr c10
   subst c10
   have H1 : (some false) = some r := by rw [if_neg (show ¬ (false = true) by decide)] at H; exact H
   clear H
   have H := H1
   clear H1
   obtain rfl := Option.some.inj H
   go_enter Tryd.func14, Tryd.ntmps14
   go_wp2_with (first | ((with_reducible refine zv (N := 2) rfl ?_); refine zw ?hg (N := 2) ?hd (cs := #[.bool a0_0, .slice A0_1 l0_1.length c0_1]) (t := 27) ?hr ?_; (case hd => rfl); (case hg => rfl); (case hr => first | (go_simp; done) | (go_simp; rfl)); intro zC hg w17 hbox hb; have n0_ := Aside0.mk (zl (by repeat (first | (with_reducible first | exact HB.out | apply ze | apply zc | apply zd) | exact HB.out)) hb); have n1_ := Aside0.mk (hbox); have n2_ := Aside0.mk ((by rw [hg]; exact (zm (by repeat (first | (with_reducible first | exact HB.out | apply ze | apply zc | apply zd) | exact HB.out))) : w.heap.size ≤ zC)); have n3_ := Aside0.mk ((by rw [hg]; exact (zm (by repeat (first | (with_reducible first | exact HB.out | apply ze | apply zc | apply zd) | exact HB.out))) : w.heap.size ≤ zC)); clear HB; have HB := n0_; have zB := n1_; have GW197 := n2_; have zF := n3_; clear n0_ n1_ n2_ n3_; clear hb hbox hg) | ((with_reducible refine zv (N := 3) rfl ?_); refine zw ?hg (N := 3) ?hd (cs := #[.bool a1_0, .slice A1_1 l1_1.length c1_1]) (t := 27) ?hr ?_; (case hd => rfl); (case hg => rfl); (case hr => first | (go_simp; done) | (go_simp; rfl)); intro zD hg w18 hbox hb; have n0_ := Aside0.mk (zt (g := zC) (o := .cells #[.bool a0_0, .slice A0_1 l0_1.length c0_1] 27 (0, 0)) (by (with_reducible repeat (first | refine zi ?_ _ | refine zk ?_ | refine zh ?_ _)); exact zB.out) hb); have n1_ := Aside0.mk (zl (by repeat (first | (with_reducible first | exact HB.out | apply ze | apply zc | apply zd | refine zj ?_ zF.out) | exact HB.out)) hb); have n2_ := Aside0.mk (hbox); have n3_ := Aside0.mk ((by rw [hg]; exact (zm (by repeat (first | (with_reducible first | exact HB.out | apply ze | apply zc | apply zd | refine zj ?_ zF.out) | exact HB.out))) : w.heap.size ≤ zD)); have n4_ := Aside0.mk ((by rw [hg]; exact (zm (by repeat (first | (with_reducible first | exact HB.out | apply ze | apply zc | apply zd | refine zj ?_ zF.out) | exact HB.out))) : w.heap.size ≤ zD)); have n5_ := Aside0.mk ((by rw [hg]; exact Nat.ne_of_lt (zy (g := zC) (o := .cells #[.bool a0_0, .slice A0_1 l0_1.length c0_1] 27 (0, 0)) (by (with_reducible repeat (first | refine zi ?_ _ | refine zk ?_ | refine zh ?_ _)); exact zB.out)) : zC ≠ zD)); have n6_ := Aside0.mk ((by rw [hg]; exact Nat.ne_of_gt (zy (g := zC) (o := .cells #[.bool a0_0, .slice A0_1 l0_1.length c0_1] 27 (0, 0)) (by (with_reducible repeat (first | refine zi ?_ _ | refine zk ?_ | refine zh ?_ _)); exact zB.out)) : zD ≠ zC)); clear zB; clear HB; have zB := n0_; have HB := n1_; have zE := n2_; have GW198 := n3_; have zI := n4_; have zG := n5_; have zH := n6_; clear n0_ n1_ n2_ n3_ n4_ n5_ n6_; clear hb hbox hg; have zjb := zG.out; have zkb := zH.out; have zR : w18.cell? ⟨zC, 0, none⟩ = some (.bool a0_0) := (zg zB.out 0).trans rfl; have zS : w18.cell? ⟨zC, 1, none⟩ = some (.slice A0_1 l0_1.length c0_1) := (zg zB.out 1).trans rfl; have zT := zf zB.out 0; have zU := zf zB.out 1; have zV : w18.cell? ⟨zD, 0, none⟩ = some (.bool a1_0) := (zg zE.out 0).trans rfl; have zW : w18.cell? ⟨zD, 1, none⟩ = some (.slice A1_1 l1_1.length c1_1) := (zg zE.out 1).trans rfl; have zX := zf zE.out 0; have zY := zf zE.out 1) | ((with_reducible refine zq (f := 35) rfl ?_); refine zz (some 14) rfl rfl Tryd.func35 (by kernel_rfl) rfl #[.agg #[.slice A0_1 l0_1.length c0_1], .agg #[.slice A1_1 l1_1.length c1_1]] rfl (by (try simp only [List.map_toArray, List.map_cons, List.map_nil]); first | done | rfl | (simp only [List.length_drop, List.length_take]; rfl)) ?_; (with_reducible refine (laws_eqTree.calls k _ _ l0_1 _ _ l1_1 false _ ?side1 ?side2 ?side3 ?side4 A9.out).mono ?_); (case side1 => repeat (first | exact (Kd.C_below HR0_1.out HB.out) | (with_reducible refine Kd.C_alloc ?_ _) | (with_reducible refine Kd.C_drewN ?_ _) | (with_reducible refine Kd.C_drew ?_))); (case side2 => exact HC0_1.out); (case side3 => repeat (first | exact (Kd.C_below HR1_1.out HB.out) | (with_reducible refine Kd.C_alloc ?_ _) | (with_reducible refine Kd.C_drewN ?_ _) | (with_reducible refine Kd.C_drew ?_))); (case side4 => exact HC1_1.out); rintro e w22 ⟨rfl, hb⟩; refine ⟨_, rfl, ?_⟩; have n0_ := Aside0.mk (zt (g := zC) (o := .cells #[.bool a0_0, .slice A0_1 l0_1.length c0_1] 27 (0, 0)) (by (with_reducible repeat (first | refine zi ?_ _ | refine zk ?_ | refine zh ?_ _)); exact zB.out) hb); have n1_ := Aside0.mk (zt (g := zD) (o := .cells #[.bool a1_0, .slice A1_1 l1_1.length c1_1] 27 (0, 0)) (by (with_reducible repeat (first | refine zi ?_ _ | refine zk ?_ | refine zh ?_ _)); exact zE.out) hb); have n2_ := Aside0.mk (zl (by repeat (first | (with_reducible first | exact HB.out | apply ze | apply zc | apply zd | refine zj ?_ zF.out | refine zj ?_ zI.out) | exact HB.out)) hb); clear zB; clear zE; clear HB; have zB := n0_; have zE := n1_; have HB := n2_; clear n0_ n1_ n2_; (try clear hb); (try clear hb2); (try clear hk); (try clear hi)))
   go_ret
   exact ⟨by first | rfl | (simp [errW_none, errW_some] <;> rfl) | (simp [*, errW_none, errW_some] <;> rfl), by repeat (first | (with_reducible first | exact HB.out | apply ze | apply zc | apply zd | refine zj ?_ zF.out | refine zj ?_ zI.out) | exact HB.out)⟩

def laws_eqByteS.l0 : Nat → List Int → List Int → Int → Option (Bool)
 | 0, _, _, _ => none
 | k + 1, x0, x1, x5 => if x5 < (x0.length : Int) then (if 0 ≤ x5 then (if x5 < (x1.length : Int) then (if (rd x0 x5) = (rd x1 x5) then (laws_eqByteS.l0 k x0 x1 (wrap64 (x5 + 1))) else (some false)) else (none)) else (none)) else (some true)
def laws_eqByteS.f (k : Nat) (l0 : List Int) (l1 : List Int) : Option (Bool) := if (l0.length : Int) = (l1.length : Int) then (laws_eqByteS.l0 k l0 l1 0) else (some false)
theorem laws_eqByteS.mono_l : ∀ k, (∀ y0 y1 y2, LeO (laws_eqByteS.l0 k y0 y1 y2) (laws_eqByteS.l0 (k + 1) y0 y1 y2))
 | 0 => fun _ _ _ r h => by simp [laws_eqByteS.l0] at h
 | k + 1 => by
  have ih0 := laws_eqByteS.mono_l k
  ·intro y0 y1 y2
   unfold laws_eqByteS.l0
   repeat' first
   | (with_reducible exact ih0 _ _ _)
   | (with_reducible exact LeO.refl _)
   | (with_reducible exact LeO.none _)
   | (with_reducible refine LeO.ite ?_ ?_)
   | (with_reducible refine LeO.bind ?_ (fun _ => ?_))
   | exact ih0 _ _ _
   | exact LeO.none _
   | refine LeO.ite ?_ ?_
   | refine LeO.bind ?_ (fun _ => ?_)
theorem laws_eqByteS.mono : ∀ a0 a1 k, LeO (laws_eqByteS.f k a0 a1) (laws_eqByteS.f (k + 1) a0 a1) := by
 intro a0 a1 k
 have ih0 := laws_eqByteS.mono_l k
 unfold laws_eqByteS.f
 repeat' first
   | (with_reducible exact ih0 _ _ _)
   | (with_reducible exact LeO.refl _)
   | (with_reducible exact LeO.none _)
   | (with_reducible refine LeO.ite ?_ ?_)
   | (with_reducible refine LeO.bind ?_ (fun _ => ?_))
   | exact ih0 _ _ _
   | exact LeO.none _
   | refine LeO.ite ?_ ?_
   | refine LeO.bind ?_ (fun _ => ?_)
set_option maxHeartbeats 8000000 in
set_option maxRecDepth 100000 in
theorem laws_eqByteS.calls (k : Nat) (A0 : Option Addr) (c0 : Nat) (l0 : List Int) (A1 : Option Addr) (c1 : Nat) (l1 : List Int) (r : Bool) (w : World) (hr0 : Kd.C (Kd.int .u8) w A0 l0.length l0) (hc0 : l0.length ≤ c0) (hr1 : Kd.C (Kd.int .u8) w A1 l1.length l1) (hc1 : l1.length ≤ c1) (h : laws_eqByteS.f k l0 l1 = some r) :
  Calls Tryd.prog 15 #[.slice A0 l0.length c0, .slice A1 l1.length c1] w fun e w' => e = .returned (.bool r) ∧ Drawn0 w w' := by
 have HR0 := Aside0.mk hr0
 have HC0 := Aside0.mk hc0
 clear hr0 hc0
 have HR1 := Aside0.mk hr1
 have HC1 := Aside0.mk hc1
 clear hr1 hc1
 have H : (if (l0.length : Int) = (l1.length : Int) then (laws_eqByteS.l0 k l0 l1 0) else (some false)) = some r := h
 clear h
 by_cases c3 : (l0.length : Int) = (l1.length : Int)
 ·rw [if_pos c3] at H
  have c3b0 : ((l0.length : Int) == (l1.length : Int)) = true := beq_iff_eq.mpr c3
  have c3b1 : ((l0.length : Int) != (l1.length : Int)) = false := bne_eq_false_iff_eq.mpr c3
  have c3b2 : (l0.length == l1.length) = true := by first | simpa using c3 | (simp at c3 ⊢; omega)
  clear c3
  have H' := Aside0.mk H
  clear H
  go_enter Tryd.func15, Tryd.ntmps15
  go_wp2
  repeat (go_quiet (fail); try go_wp2)
  go_loopg [5] k (fun kq v5 w' => ∃ (x5_1 : Int), v5 = .int .i64 x5_1 ∧ Aside0 (laws_eqByteS.l0 kq l0 l1 x5_1 = some r) ∧ Aside0 (kq ≤ k) ∧ Drawn0 w w')
  case atStart => exact ⟨(0), (by first | rfl | (simp; done) | (simp [*]; done)), H', ⟨Nat.le_refl _⟩, by repeat (first | exact Drawn0.refl _ | apply Drawn0.step)⟩
  case round =>
   clear H'
   try clear c1
   try clear p2
   try clear c3
   try clear c3b0
   try clear c3b1
   try clear c3b2
   obtain ⟨x5_1, rfl, HA, HK1, ⟨m1, rfl⟩⟩ := hrel
   cases gk with
   | zero => exact absurd HA.out (by simp [laws_eqByteS.l0])
   | succ k1 =>
    have H := HA.out
    clear HA
    simp only [laws_eqByteS.l0] at H
    by_cases c4 : x5_1 < (l0.length : Int)
    ·rw [if_pos c4] at H
     have c4b0 : decide (x5_1 < (l0.length : Int)) = true := decide_eq_true c4
     clear c4
     by_cases c5 : 0 ≤ x5_1
     ·rw [if_pos c5] at H
      have c5b0 : decide (0 ≤ x5_1) = true := decide_eq_true c5
      clear c5
      by_cases c6 : x5_1 < (l1.length : Int)
      ·rw [if_pos c6] at H
       have c6b0 : decide (x5_1 < (l1.length : Int)) = true := decide_eq_true c6
       clear c6
       by_cases c7 : (rd l0 x5_1) = (rd l1 x5_1)
       ·rw [if_pos c7] at H
        have c7b0 : ((rd l0 x5_1) == (rd l1 x5_1)) = true := beq_iff_eq.mpr c7
        have c7b1 : ((rd l0 x5_1) != (rd l1 x5_1)) = false := bne_eq_false_iff_eq.mpr c7
        clear c7
        have H' := Aside0.mk H
        clear H
        have p200 : 0 ≤ (x5_1 : Int) := of_decide_eq_true (by first | (with_reducible assumption) | assumption)
        have q200 : x5_1 < (l0.length : Int) := of_decide_eq_true (by first | (with_reducible assumption) | assumption)
        obtain ⟨ad200, e200, hx200_0⟩ := Kd.at_int HR0.out x5_1 p200 q200
        cases e200
        replace p200 := eq_true p200
        replace q200 := eq_true q200
        have p201 : 0 ≤ (x5_1 : Int) := of_decide_eq_true (by first | (with_reducible assumption) | assumption)
        have q201 : x5_1 < (l1.length : Int) := of_decide_eq_true (by first | (with_reducible assumption) | assumption)
        obtain ⟨ad201, e201, hx201_0⟩ := Kd.at_int HR1.out x5_1 p201 q201
        cases e201
        replace p201 := eq_true p201
        replace q201 := eq_true q201
        go_wp2
        repeat (go_quiet (fail); try go_wp2)
        go_roundg k1
        case measure => have := HK1.out; omega
        case rel => exact ⟨(wrap64 (x5_1 + 1)), (by first | rfl | (simp; done) | (simp [*]; done)), H', ⟨by have := HK1.out; omega⟩, by repeat (first | exact Drawn0.refl _ | apply Drawn0.step)⟩
       ·rw [if_neg c7] at H
        have c7b0 : ((rd l0 x5_1) == (rd l1 x5_1)) = false := beq_eq_false_iff_ne.mpr c7
        have c7b1 : ((rd l0 x5_1) != (rd l1 x5_1)) = true := bne_iff_ne.mpr c7
        obtain rfl := Option.some.inj H
        have p200 : 0 ≤ (x5_1 : Int) := of_decide_eq_true (by first | (with_reducible assumption) | assumption)
        have q200 : x5_1 < (l0.length : Int) := of_decide_eq_true (by first | (with_reducible assumption) | assumption)
        obtain ⟨ad200, e200, hx200_0⟩ := Kd.at_int HR0.out x5_1 p200 q200
        cases e200
        replace p200 := eq_true p200
        replace q200 := eq_true q200
        have p201 : 0 ≤ (x5_1 : Int) := of_decide_eq_true (by first | (with_reducible assumption) | assumption)
        have q201 : x5_1 < (l1.length : Int) := of_decide_eq_true (by first | (with_reducible assumption) | assumption)
        obtain ⟨ad201, e201, hx201_0⟩ := Kd.at_int HR1.out x5_1 p201 q201
        cases e201
        replace p201 := eq_true p201
        replace q201 := eq_true q201
        go_wp2
        repeat (go_quiet (fail); try go_wp2)
        go_ret
        exact ⟨by first | rfl | (simp; done) | (simp [*]; done), by repeat (first | exact Drawn0.refl _ | apply Drawn0.step)⟩
      ·rw [if_neg c6] at H
       exact absurd H (by simp)
     ·rw [if_neg c5] at H
      exact absurd H (by simp)
    ·rw [if_neg c4] at H
     have c4b0 : decide (x5_1 < (l0.length : Int)) = false := decide_eq_false c4
     clear c4
     obtain rfl := Option.some.inj H
     go_wp2
     repeat (go_quiet (fail); try go_wp2)
     go_ret
     exact ⟨by first | rfl | (simp; done) | (simp [*]; done), by repeat (first | exact Drawn0.refl _ | apply Drawn0.step)⟩
 ·rw [if_neg c3] at H
  have c3b0 : ((l0.length : Int) == (l1.length : Int)) = false := beq_eq_false_iff_ne.mpr c3
  have c3b1 : ((l0.length : Int) != (l1.length : Int)) = true := bne_iff_ne.mpr c3
  have c3b2 : (l0.length == l1.length) = false := by first | simpa using c3 | (simp at c3 ⊢; omega)
  obtain rfl := Option.some.inj H
  go_enter Tryd.func15, Tryd.ntmps15
  go_wp2
  repeat (go_quiet (fail); try go_wp2)
  go_ret
  exact ⟨by first | rfl | (simp; done) | (simp [*]; done), by repeat (first | exact Drawn0.refl _ | apply Drawn0.step)⟩

end Go.Proofs.YtjoafknckmoojaaDoor.GFnExactDecodeTree
