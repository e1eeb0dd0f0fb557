/- Written by give.py, a program of this session, that runs the kit's print and lays contracts proved by hand beside it. -/
import Derived.Test.YtejecjjimggjeaaGFnTornSuperx0
namespace Go.Proofs.Ytejecjjimggjeaa.GFnTornSuper
open Go.RowKit Go.Proofs.YtejecjjimggjeaaW.PrintWords Go.Proofs.YtejecjjimggjeaaW.PrintLast Go.Proofs.YtejecjjimggjeaaW.PrintMore
attribute [local go_sem] max2_int min2_int max_two min_two max_three min_three max_four min_four
attribute [local go_sem high] Go.Proofs.YtejecjjimggjeaaH.str_leq Go.Proofs.YtejecjjimggjeaaH.str_geq Go.Proofs.YtejecjjimggjeaaH.str_gtr   -- for this text's walks alone
set_option linter.unusedVariables false
set_option linter.unusedSimpArgs false

def impl_Super_valid.f (a0_0 : Int) (a0_1 : Int) (a0_2 : Int) (a0_3 : Int) (a0_4 : Int) : Option (Bool) := if a0_0 ≥ 1 then (if a0_1 = 0 then (if a0_2 ≥ 0 then (if a0_2 ≤ 2147483647 then (if a0_3 ≥ 0 then (if a0_3 ≤ 4096 then (if a0_4 ≥ 0 then (some (decide (a0_4 ≤ 4294967295))) else (some false)) else (some false)) else (some false)) else (some false)) else (some false)) else (if a0_1 = 1 then (if a0_2 ≥ 0 then (if a0_2 ≤ 2147483647 then (if a0_3 ≥ 0 then (if a0_3 ≤ 4096 then (if a0_4 ≥ 0 then (some (decide (a0_4 ≤ 4294967295))) else (some false)) else (some false)) else (some false)) else (some false)) else (some false)) else (some false))) else (some false)
set_option maxHeartbeats 8000000 in
set_option maxRecDepth 100000 in
theorem impl_Super_valid.calls (a0_0 : Int) (a0_1 : Int) (a0_2 : Int) (a0_3 : Int) (a0_4 : Int) (r : Bool) (w : World) (h : impl_Super_valid.f a0_0 a0_1 a0_2 a0_3 a0_4 = some r) :
  Calls Try.prog 52 #[.agg #[.int .i64 a0_0, .int .i64 a0_1, .int .i64 a0_2, .int .i64 a0_3, .int .i64 a0_4]] w fun e w' => e = .returned (.bool r) ∧ Below w.heap.size w w' := by
 have hu52 := Try.underlying52
 have HB := Aside0.mk (Below.refl w.heap.size w)
 have H : (if a0_0 ≥ 1 then (if a0_1 = 0 then (if a0_2 ≥ 0 then (if a0_2 ≤ 2147483647 then (if a0_3 ≥ 0 then (if a0_3 ≤ 4096 then (if a0_4 ≥ 0 then (some (decide (a0_4 ≤ 4294967295))) else (some false)) else (some false)) else (some false)) else (some false)) else (some false)) else (if a0_1 = 1 then (if a0_2 ≥ 0 then (if a0_2 ≤ 2147483647 then (if a0_3 ≥ 0 then (if a0_3 ≤ 4096 then (if a0_4 ≥ 0 then (some (decide (a0_4 ≤ 4294967295))) else (some false)) else (some false)) else (some false)) else (some false)) else (some false)) else (some false))) else (some false)) = some r := h
 clear h
 by_cases c2 : a0_0 ≥ 1
 ·rw [if_pos c2] at H
  have c2b0 : decide (1 ≤ a0_0) = true := decide_eq_true c2
  clear c2
  by_cases c3 : a0_1 = 0
  ·rw [if_pos c3] at H
   have c3b0 : (a0_1 == 0) = true := beq_iff_eq.mpr c3
   have c3b1 : (a0_1 != 0) = false := bne_eq_false_iff_eq.mpr c3
   clear c3
   by_cases c4 : a0_2 ≥ 0
   ·rw [if_pos c4] at H
    have c4b0 : decide (0 ≤ a0_2) = true := decide_eq_true c4
    clear c4
    by_cases c5 : a0_2 ≤ 2147483647
    ·rw [if_pos c5] at H
     have c5b0 : decide (a0_2 ≤ 2147483647) = true := decide_eq_true c5
     clear c5
     by_cases c6 : a0_3 ≥ 0
     ·rw [if_pos c6] at H
      have c6b0 : decide (0 ≤ a0_3) = true := decide_eq_true c6
      clear c6
      by_cases c7 : a0_3 ≤ 4096
      ·rw [if_pos c7] at H
       have c7b0 : decide (a0_3 ≤ 4096) = true := decide_eq_true c7
       clear c7
       by_cases c8 : a0_4 ≥ 0
       ·rw [if_pos c8] at H
        have c8b0 : decide (0 ≤ a0_4) = true := decide_eq_true c8
        clear c8
        obtain rfl := Option.some.inj H
        go_enter Try.func52, Try.ntmps52
        go_wp2_with (first | ((with_reducible refine zu (N := 1) rfl ?_); refine zy ?hg (N := 1) ?hd (cs := #[.int .i64 a0_0, .int .i64 a0_1, .int .i64 a0_2, .int .i64 a0_3, .int .i64 a0_4]) (t := 52) ?hr ?_; (case hd => rfl); (case hg => rfl); (case hr => first | (go_simp; done) | (go_simp; rfl)); intro zA hg w9 hbox hb; have n0_ := Aside0.mk (zl (by repeat (first | (with_reducible first | exact HB.out | apply zg | apply zd | apply zh) | exact HB.out)) hb); have n1_ := Aside0.mk (hbox); have n2_ := Aside0.mk ((by rw [hg]; exact (zk (by repeat (first | (with_reducible first | exact HB.out | apply zg | apply zd | apply zh) | exact HB.out))) : w.heap.size ≤ zA)); have n3_ := Aside0.mk ((by rw [hg]; exact (zk (by repeat (first | (with_reducible first | exact HB.out | apply zg | apply zd | apply zh) | exact HB.out))) : w.heap.size ≤ zA)); clear HB; have HB := n0_; have zz := n1_; have GW101 := n2_; have zB := n3_; clear n0_ n1_ n2_ n3_; clear hb hbox hg; have zC : w9.cell? ⟨zA, 0, none⟩ = some (.int .i64 a0_0) := (zc zz.out 0).trans rfl; have zD : w9.cell? ⟨zA, 1, none⟩ = some (.int .i64 a0_1) := (zc zz.out 1).trans rfl; have zE : w9.cell? ⟨zA, 2, none⟩ = some (.int .i64 a0_2) := (zc zz.out 2).trans rfl; have zF : w9.cell? ⟨zA, 3, none⟩ = some (.int .i64 a0_3) := (zc zz.out 3).trans rfl; have zG : w9.cell? ⟨zA, 4, none⟩ = some (.int .i64 a0_4) := (zc zz.out 4).trans rfl; have zH := zb zz.out 0; have zI := zb zz.out 1; have zJ := zb zz.out 2; have zK := zb zz.out 3; have zL := zb zz.out 4))
        go_ret
        exact ⟨by first | rfl | (simp [errW_none, errW_some] <;> rfl) | (simp [*, errW_none, errW_some] <;> rfl), by repeat (first | (with_reducible first | exact HB.out | apply zg | apply zd | apply zh | refine zj ?_ zB.out) | exact HB.out)⟩
       ·rw [if_neg c8] at H
        have c8b0 : decide (0 ≤ a0_4) = false := decide_eq_false c8
        clear c8
        obtain rfl := Option.some.inj H
        go_enter Try.func52, Try.ntmps52
        go_wp2_with (first | ((with_reducible refine zu (N := 1) rfl ?_); refine zy ?hg (N := 1) ?hd (cs := #[.int .i64 a0_0, .int .i64 a0_1, .int .i64 a0_2, .int .i64 a0_3, .int .i64 a0_4]) (t := 52) ?hr ?_; (case hd => rfl); (case hg => rfl); (case hr => first | (go_simp; done) | (go_simp; rfl)); intro zA hg w11 hbox hb; have n0_ := Aside0.mk (zl (by repeat (first | (with_reducible first | exact HB.out | apply zg | apply zd | apply zh) | exact HB.out)) hb); have n1_ := Aside0.mk (hbox); have n2_ := Aside0.mk ((by rw [hg]; exact (zk (by repeat (first | (with_reducible first | exact HB.out | apply zg | apply zd | apply zh) | exact HB.out))) : w.heap.size ≤ zA)); have n3_ := Aside0.mk ((by rw [hg]; exact (zk (by repeat (first | (with_reducible first | exact HB.out | apply zg | apply zd | apply zh) | exact HB.out))) : w.heap.size ≤ zA)); clear HB; have HB := n0_; have zz := n1_; have GW101 := n2_; have zB := n3_; clear n0_ n1_ n2_ n3_; clear hb hbox hg; have zM : w11.cell? ⟨zA, 0, none⟩ = some (.int .i64 a0_0) := (zc zz.out 0).trans rfl; have zN : w11.cell? ⟨zA, 1, none⟩ = some (.int .i64 a0_1) := (zc zz.out 1).trans rfl; have zO : w11.cell? ⟨zA, 2, none⟩ = some (.int .i64 a0_2) := (zc zz.out 2).trans rfl; have zP : w11.cell? ⟨zA, 3, none⟩ = some (.int .i64 a0_3) := (zc zz.out 3).trans rfl; have zQ : w11.cell? ⟨zA, 4, none⟩ = some (.int .i64 a0_4) := (zc zz.out 4).trans rfl; have zR := zb zz.out 0; have zS := zb zz.out 1; have zT := zb zz.out 2; have zU := zb zz.out 3; have zV := zb zz.out 4))
        go_ret
        exact ⟨by first | rfl | (simp [errW_none, errW_some] <;> rfl) | (simp [*, errW_none, errW_some] <;> rfl), by repeat (first | (with_reducible first | exact HB.out | apply zg | apply zd | apply zh | refine zj ?_ zB.out) | exact HB.out)⟩
      ·rw [if_neg c7] at H
       have c7b0 : decide (a0_3 ≤ 4096) = false := decide_eq_false c7
       clear c7
       obtain rfl := Option.some.inj H
       go_enter Try.func52, Try.ntmps52
       go_wp2_with (first | ((with_reducible refine zu (N := 1) rfl ?_); refine zy ?hg (N := 1) ?hd (cs := #[.int .i64 a0_0, .int .i64 a0_1, .int .i64 a0_2, .int .i64 a0_3, .int .i64 a0_4]) (t := 52) ?hr ?_; (case hd => rfl); (case hg => rfl); (case hr => first | (go_simp; done) | (go_simp; rfl)); intro zA hg w13 hbox hb; have n0_ := Aside0.mk (zl (by repeat (first | (with_reducible first | exact HB.out | apply zg | apply zd | apply zh) | exact HB.out)) hb); have n1_ := Aside0.mk (hbox); have n2_ := Aside0.mk ((by rw [hg]; exact (zk (by repeat (first | (with_reducible first | exact HB.out | apply zg | apply zd | apply zh) | exact HB.out))) : w.heap.size ≤ zA)); have n3_ := Aside0.mk ((by rw [hg]; exact (zk (by repeat (first | (with_reducible first | exact HB.out | apply zg | apply zd | apply zh) | exact HB.out))) : w.heap.size ≤ zA)); clear HB; have HB := n0_; have zz := n1_; have GW101 := n2_; have zB := n3_; clear n0_ n1_ n2_ n3_; clear hb hbox hg; have zW : w13.cell? ⟨zA, 0, none⟩ = some (.int .i64 a0_0) := (zc zz.out 0).trans rfl; have zX : w13.cell? ⟨zA, 1, none⟩ = some (.int .i64 a0_1) := (zc zz.out 1).trans rfl; have zY : w13.cell? ⟨zA, 2, none⟩ = some (.int .i64 a0_2) := (zc zz.out 2).trans rfl; have zZ : w13.cell? ⟨zA, 3, none⟩ = some (.int .i64 a0_3) := (zc zz.out 3).trans rfl; have zab : w13.cell? ⟨zA, 4, none⟩ = some (.int .i64 a0_4) := (zc zz.out 4).trans rfl; have zbb := zb zz.out 0; have zcb := zb zz.out 1; have zdb := zb zz.out 2; have zeb := zb zz.out 3; have zfb := zb zz.out 4))
       go_ret
       exact ⟨by first | rfl | (simp [errW_none, errW_some] <;> rfl) | (simp [*, errW_none, errW_some] <;> rfl), by repeat (first | (with_reducible first | exact HB.out | apply zg | apply zd | apply zh | refine zj ?_ zB.out) | exact HB.out)⟩
     ·rw [if_neg c6] at H
      have c6b0 : decide (0 ≤ a0_3) = false := decide_eq_false c6
      clear c6
      obtain rfl := Option.some.inj H
      go_enter Try.func52, Try.ntmps52
      go_wp2_with (first | ((with_reducible refine zu (N := 1) rfl ?_); refine zy ?hg (N := 1) ?hd (cs := #[.int .i64 a0_0, .int .i64 a0_1, .int .i64 a0_2, .int .i64 a0_3, .int .i64 a0_4]) (t := 52) ?hr ?_; (case hd => rfl); (case hg => rfl); (case hr => first | (go_simp; done) | (go_simp; rfl)); intro zA hg w15 hbox hb; have n0_ := Aside0.mk (zl (by repeat (first | (with_reducible first | exact HB.out | apply zg | apply zd | apply zh) | exact HB.out)) hb); have n1_ := Aside0.mk (hbox); have n2_ := Aside0.mk ((by rw [hg]; exact (zk (by repeat (first | (with_reducible first | exact HB.out | apply zg | apply zd | apply zh) | exact HB.out))) : w.heap.size ≤ zA)); have n3_ := Aside0.mk ((by rw [hg]; exact (zk (by repeat (first | (with_reducible first | exact HB.out | apply zg | apply zd | apply zh) | exact HB.out))) : w.heap.size ≤ zA)); clear HB; have HB := n0_; have zz := n1_; have GW101 := n2_; have zB := n3_; clear n0_ n1_ n2_ n3_; clear hb hbox hg; have zgb : w15.cell? ⟨zA, 0, none⟩ = some (.int .i64 a0_0) := (zc zz.out 0).trans rfl; have zhb : w15.cell? ⟨zA, 1, none⟩ = some (.int .i64 a0_1) := (zc zz.out 1).trans rfl; have zib : w15.cell? ⟨zA, 2, none⟩ = some (.int .i64 a0_2) := (zc zz.out 2).trans rfl; have zjb : w15.cell? ⟨zA, 3, none⟩ = some (.int .i64 a0_3) := (zc zz.out 3).trans rfl; have zkb : w15.cell? ⟨zA, 4, none⟩ = some (.int .i64 a0_4) := (zc zz.out 4).trans rfl; have zlb := zb zz.out 0; have zmb := zb zz.out 1; have znb := zb zz.out 2; have zob := zb zz.out 3; have zpb := zb zz.out 4))
      go_ret
      exact ⟨by first | rfl | (simp [errW_none, errW_some] <;> rfl) | (simp [*, errW_none, errW_some] <;> rfl), by repeat (first | (with_reducible first | exact HB.out | apply zg | apply zd | apply zh | refine zj ?_ zB.out) | exact HB.out)⟩
    ·rw [if_neg c5] at H
     have c5b0 : decide (a0_2 ≤ 2147483647) = false := decide_eq_false c5
     clear c5
     obtain rfl := Option.some.inj H
     go_enter Try.func52, Try.ntmps52
     go_wp2_with (first | ((with_reducible refine zu (N := 1) rfl ?_); refine zy ?hg (N := 1) ?hd (cs := #[.int .i64 a0_0, .int .i64 a0_1, .int .i64 a0_2, .int .i64 a0_3, .int .i64 a0_4]) (t := 52) ?hr ?_; (case hd => rfl); (case hg => rfl); (case hr => first | (go_simp; done) | (go_simp; rfl)); intro zA hg w17 hbox hb; have n0_ := Aside0.mk (zl (by repeat (first | (with_reducible first | exact HB.out | apply zg | apply zd | apply zh) | exact HB.out)) hb); have n1_ := Aside0.mk (hbox); have n2_ := Aside0.mk ((by rw [hg]; exact (zk (by repeat (first | (with_reducible first | exact HB.out | apply zg | apply zd | apply zh) | exact HB.out))) : w.heap.size ≤ zA)); have n3_ := Aside0.mk ((by rw [hg]; exact (zk (by repeat (first | (with_reducible first | exact HB.out | apply zg | apply zd | apply zh) | exact HB.out))) : w.heap.size ≤ zA)); clear HB; have HB := n0_; have zz := n1_; have GW101 := n2_; have zB := n3_; clear n0_ n1_ n2_ n3_; clear hb hbox hg; have zqb : w17.cell? ⟨zA, 0, none⟩ = some (.int .i64 a0_0) := (zc zz.out 0).trans rfl; have zrb : w17.cell? ⟨zA, 1, none⟩ = some (.int .i64 a0_1) := (zc zz.out 1).trans rfl; have zsb : w17.cell? ⟨zA, 2, none⟩ = some (.int .i64 a0_2) := (zc zz.out 2).trans rfl; have ztb : w17.cell? ⟨zA, 3, none⟩ = some (.int .i64 a0_3) := (zc zz.out 3).trans rfl; have zub : w17.cell? ⟨zA, 4, none⟩ = some (.int .i64 a0_4) := (zc zz.out 4).trans rfl; have zvb := zb zz.out 0; have zwb := zb zz.out 1; have zxb := zb zz.out 2; have zyb := zb zz.out 3; have zzb := zb zz.out 4))
     go_ret
     exact ⟨by first | rfl | (simp [errW_none, errW_some] <;> rfl) | (simp [*, errW_none, errW_some] <;> rfl), by repeat (first | (with_reducible first | exact HB.out | apply zg | apply zd | apply zh | refine zj ?_ zB.out) | exact HB.out)⟩
   ·rw [if_neg c4] at H
    have c4b0 : decide (0 ≤ a0_2) = false := decide_eq_false c4
    clear c4
    obtain rfl := Option.some.inj H
    go_enter Try.func52, Try.ntmps52
    go_wp2_with (first | ((with_reducible refine zu (N := 1) rfl ?_); refine zy ?hg (N := 1) ?hd (cs := #[.int .i64 a0_0, .int .i64 a0_1, .int .i64 a0_2, .int .i64 a0_3, .int .i64 a0_4]) (t := 52) ?hr ?_; (case hd => rfl); (case hg => rfl); (case hr => first | (go_simp; done) | (go_simp; rfl)); intro zA hg w19 hbox hb; have n0_ := Aside0.mk (zl (by repeat (first | (with_reducible first | exact HB.out | apply zg | apply zd | apply zh) | exact HB.out)) hb); have n1_ := Aside0.mk (hbox); have n2_ := Aside0.mk ((by rw [hg]; exact (zk (by repeat (first | (with_reducible first | exact HB.out | apply zg | apply zd | apply zh) | exact HB.out))) : w.heap.size ≤ zA)); have n3_ := Aside0.mk ((by rw [hg]; exact (zk (by repeat (first | (with_reducible first | exact HB.out | apply zg | apply zd | apply zh) | exact HB.out))) : w.heap.size ≤ zA)); clear HB; have HB := n0_; have zz := n1_; have GW101 := n2_; have zB := n3_; clear n0_ n1_ n2_ n3_; clear hb hbox hg; have zAb : w19.cell? ⟨zA, 0, none⟩ = some (.int .i64 a0_0) := (zc zz.out 0).trans rfl; have zBb : w19.cell? ⟨zA, 1, none⟩ = some (.int .i64 a0_1) := (zc zz.out 1).trans rfl; have zCb : w19.cell? ⟨zA, 2, none⟩ = some (.int .i64 a0_2) := (zc zz.out 2).trans rfl; have zDb : w19.cell? ⟨zA, 3, none⟩ = some (.int .i64 a0_3) := (zc zz.out 3).trans rfl; have zEb : w19.cell? ⟨zA, 4, none⟩ = some (.int .i64 a0_4) := (zc zz.out 4).trans rfl; have zFb := zb zz.out 0; have zGb := zb zz.out 1; have zHb := zb zz.out 2; have zIb := zb zz.out 3; have zJb := zb zz.out 4))
    go_ret
    exact ⟨by first | rfl | (simp [errW_none, errW_some] <;> rfl) | (simp [*, errW_none, errW_some] <;> rfl), by repeat (first | (with_reducible first | exact HB.out | apply zg | apply zd | apply zh | refine zj ?_ zB.out) | exact HB.out)⟩
  ·rw [if_neg c3] at H
   have c3b0 : (a0_1 == 0) = false := beq_eq_false_iff_ne.mpr c3
   have c3b1 : (a0_1 != 0) = true := bne_iff_ne.mpr c3
   by_cases c21 : a0_1 = 1
   ·rw [if_pos c21] at H
    have c21b0 : (a0_1 == 1) = true := beq_iff_eq.mpr c21
    have c21b1 : (a0_1 != 1) = false := bne_eq_false_iff_eq.mpr c21
    clear c21
    by_cases c22 : a0_2 ≥ 0
    ·rw [if_pos c22] at H
     have c22b0 : decide (0 ≤ a0_2) = true := decide_eq_true c22
     clear c22
     by_cases c23 : a0_2 ≤ 2147483647
     ·rw [if_pos c23] at H
      have c23b0 : decide (a0_2 ≤ 2147483647) = true := decide_eq_true c23
      clear c23
      by_cases c24 : a0_3 ≥ 0
      ·rw [if_pos c24] at H
       have c24b0 : decide (0 ≤ a0_3) = true := decide_eq_true c24
       clear c24
       by_cases c25 : a0_3 ≤ 4096
       ·rw [if_pos c25] at H
        have c25b0 : decide (a0_3 ≤ 4096) = true := decide_eq_true c25
        clear c25
        by_cases c26 : a0_4 ≥ 0
        ·rw [if_pos c26] at H
         have c26b0 : decide (0 ≤ a0_4) = true := decide_eq_true c26
         clear c26
         obtain rfl := Option.some.inj H
         go_enter Try.func52, Try.ntmps52
         go_wp2_with (first | ((with_reducible refine zu (N := 1) rfl ?_); refine zy ?hg (N := 1) ?hd (cs := #[.int .i64 a0_0, .int .i64 a0_1, .int .i64 a0_2, .int .i64 a0_3, .int .i64 a0_4]) (t := 52) ?hr ?_; (case hd => rfl); (case hg => rfl); (case hr => first | (go_simp; done) | (go_simp; rfl)); intro zA hg w27 hbox hb; have n0_ := Aside0.mk (zl (by repeat (first | (with_reducible first | exact HB.out | apply zg | apply zd | apply zh) | exact HB.out)) hb); have n1_ := Aside0.mk (hbox); have n2_ := Aside0.mk ((by rw [hg]; exact (zk (by repeat (first | (with_reducible first | exact HB.out | apply zg | apply zd | apply zh) | exact HB.out))) : w.heap.size ≤ zA)); have n3_ := Aside0.mk ((by rw [hg]; exact (zk (by repeat (first | (with_reducible first | exact HB.out | apply zg | apply zd | apply zh) | exact HB.out))) : w.heap.size ≤ zA)); clear HB; have HB := n0_; have zz := n1_; have GW101 := n2_; have zB := n3_; clear n0_ n1_ n2_ n3_; clear hb hbox hg; have zKb : w27.cell? ⟨zA, 0, none⟩ = some (.int .i64 a0_0) := (zc zz.out 0).trans rfl; have zLb : w27.cell? ⟨zA, 1, none⟩ = some (.int .i64 a0_1) := (zc zz.out 1).trans rfl; have zMb : w27.cell? ⟨zA, 2, none⟩ = some (.int .i64 a0_2) := (zc zz.out 2).trans rfl; have zNb : w27.cell? ⟨zA, 3, none⟩ = some (.int .i64 a0_3) := (zc zz.out 3).trans rfl; have zOb : w27.cell? ⟨zA, 4, none⟩ = some (.int .i64 a0_4) := (zc zz.out 4).trans rfl; have zPb := zb zz.out 0; have zQb := zb zz.out 1; have zRb := zb zz.out 2; have zSb := zb zz.out 3; have zTb := zb zz.out 4))
         go_ret
         exact ⟨by first | rfl | (simp [errW_none, errW_some] <;> rfl) | (simp [*, errW_none, errW_some] <;> rfl), by repeat (first | (with_reducible first | exact HB.out | apply zg | apply zd | apply zh | refine zj ?_ zB.out) | exact HB.out)⟩
        ·rw [if_neg c26] at H
         have c26b0 : decide (0 ≤ a0_4) = false := decide_eq_false c26
         clear c26
         obtain rfl := Option.some.inj H
         go_enter Try.func52, Try.ntmps52
         go_wp2_with (first | ((with_reducible refine zu (N := 1) rfl ?_); refine zy ?hg (N := 1) ?hd (cs := #[.int .i64 a0_0, .int .i64 a0_1, .int .i64 a0_2, .int .i64 a0_3, .int .i64 a0_4]) (t := 52) ?hr ?_; (case hd => rfl); (case hg => rfl); (case hr => first | (go_simp; done) | (go_simp; rfl)); intro zA hg w29 hbox hb; have n0_ := Aside0.mk (zl (by repeat (first | (with_reducible first | exact HB.out | apply zg | apply zd | apply zh) | exact HB.out)) hb); have n1_ := Aside0.mk (hbox); have n2_ := Aside0.mk ((by rw [hg]; exact (zk (by repeat (first | (with_reducible first | exact HB.out | apply zg | apply zd | apply zh) | exact HB.out))) : w.heap.size ≤ zA)); have n3_ := Aside0.mk ((by rw [hg]; exact (zk (by repeat (first | (with_reducible first | exact HB.out | apply zg | apply zd | apply zh) | exact HB.out))) : w.heap.size ≤ zA)); clear HB; have HB := n0_; have zz := n1_; have GW101 := n2_; have zB := n3_; clear n0_ n1_ n2_ n3_; clear hb hbox hg; have zUb : w29.cell? ⟨zA, 0, none⟩ = some (.int .i64 a0_0) := (zc zz.out 0).trans rfl; have zVb : w29.cell? ⟨zA, 1, none⟩ = some (.int .i64 a0_1) := (zc zz.out 1).trans rfl; have zWb : w29.cell? ⟨zA, 2, none⟩ = some (.int .i64 a0_2) := (zc zz.out 2).trans rfl; have zXb : w29.cell? ⟨zA, 3, none⟩ = some (.int .i64 a0_3) := (zc zz.out 3).trans rfl; have zYb : w29.cell? ⟨zA, 4, none⟩ = some (.int .i64 a0_4) := (zc zz.out 4).trans rfl; have zZb := zb zz.out 0; have zac := zb zz.out 1; have zbc := zb zz.out 2; have zcc := zb zz.out 3; have zdc := zb zz.out 4))
         go_ret
         exact ⟨by first | rfl | (simp [errW_none, errW_some] <;> rfl) | (simp [*, errW_none, errW_some] <;> rfl), by repeat (first | (with_reducible first | exact HB.out | apply zg | apply zd | apply zh | refine zj ?_ zB.out) | exact HB.out)⟩
       ·rw [if_neg c25] at H
        have c25b0 : decide (a0_3 ≤ 4096) = false := decide_eq_false c25
        clear c25
        obtain rfl := Option.some.inj H
        go_enter Try.func52, Try.ntmps52
        go_wp2_with (first | ((with_reducible refine zu (N := 1) rfl ?_); refine zy ?hg (N := 1) ?hd (cs := #[.int .i64 a0_0, .int .i64 a0_1, .int .i64 a0_2, .int .i64 a0_3, .int .i64 a0_4]) (t := 52) ?hr ?_; (case hd => rfl); (case hg => rfl); (case hr => first | (go_simp; done) | (go_simp; rfl)); intro zA hg w31 hbox hb; have n0_ := Aside0.mk (zl (by repeat (first | (with_reducible first | exact HB.out | apply zg | apply zd | apply zh) | exact HB.out)) hb); have n1_ := Aside0.mk (hbox); have n2_ := Aside0.mk ((by rw [hg]; exact (zk (by repeat (first | (with_reducible first | exact HB.out | apply zg | apply zd | apply zh) | exact HB.out))) : w.heap.size ≤ zA)); have n3_ := Aside0.mk ((by rw [hg]; exact (zk (by repeat (first | (with_reducible first | exact HB.out | apply zg | apply zd | apply zh) | exact HB.out))) : w.heap.size ≤ zA)); clear HB; have HB := n0_; have zz := n1_; have GW101 := n2_; have zB := n3_; clear n0_ n1_ n2_ n3_; clear hb hbox hg; have zec : w31.cell? ⟨zA, 0, none⟩ = some (.int .i64 a0_0) := (zc zz.out 0).trans rfl; have zfc : w31.cell? ⟨zA, 1, none⟩ = some (.int .i64 a0_1) := (zc zz.out 1).trans rfl; have zgc : w31.cell? ⟨zA, 2, none⟩ = some (.int .i64 a0_2) := (zc zz.out 2).trans rfl; have zhc : w31.cell? ⟨zA, 3, none⟩ = some (.int .i64 a0_3) := (zc zz.out 3).trans rfl; have zic : w31.cell? ⟨zA, 4, none⟩ = some (.int .i64 a0_4) := (zc zz.out 4).trans rfl; have zjc := zb zz.out 0; have zkc := zb zz.out 1; have zlc := zb zz.out 2; have zmc := zb zz.out 3; have znc := zb zz.out 4))
        go_ret
        exact ⟨by first | rfl | (simp [errW_none, errW_some] <;> rfl) | (simp [*, errW_none, errW_some] <;> rfl), by repeat (first | (with_reducible first | exact HB.out | apply zg | apply zd | apply zh | refine zj ?_ zB.out) | exact HB.out)⟩
      ·rw [if_neg c24] at H
       have c24b0 : decide (0 ≤ a0_3) = false := decide_eq_false c24
       clear c24
       obtain rfl := Option.some.inj H
       go_enter Try.func52, Try.ntmps52
       go_wp2_with (first | ((with_reducible refine zu (N := 1) rfl ?_); refine zy ?hg (N := 1) ?hd (cs := #[.int .i64 a0_0, .int .i64 a0_1, .int .i64 a0_2, .int .i64 a0_3, .int .i64 a0_4]) (t := 52) ?hr ?_; (case hd => rfl); (case hg => rfl); (case hr => first | (go_simp; done) | (go_simp; rfl)); intro zA hg w33 hbox hb; have n0_ := Aside0.mk (zl (by repeat (first | (with_reducible first | exact HB.out | apply zg | apply zd | apply zh) | exact HB.out)) hb); have n1_ := Aside0.mk (hbox); have n2_ := Aside0.mk ((by rw [hg]; exact (zk (by repeat (first | (with_reducible first | exact HB.out | apply zg | apply zd | apply zh) | exact HB.out))) : w.heap.size ≤ zA)); have n3_ := Aside0.mk ((by rw [hg]; exact (zk (by repeat (first | (with_reducible first | exact HB.out | apply zg | apply zd | apply zh) | exact HB.out))) : w.heap.size ≤ zA)); clear HB; have HB := n0_; have zz := n1_; have GW101 := n2_; have zB := n3_; clear n0_ n1_ n2_ n3_; clear hb hbox hg; have zoc : w33.cell? ⟨zA, 0, none⟩ = some (.int .i64 a0_0) := (zc zz.out 0).trans rfl; have zpc : w33.cell? ⟨zA, 1, none⟩ = some (.int .i64 a0_1) := (zc zz.out 1).trans rfl; have zqc : w33.cell? ⟨zA, 2, none⟩ = some (.int .i64 a0_2) := (zc zz.out 2).trans rfl; have zrc : w33.cell? ⟨zA, 3, none⟩ = some (.int .i64 a0_3) := (zc zz.out 3).trans rfl; have zsc : w33.cell? ⟨zA, 4, none⟩ = some (.int .i64 a0_4) := (zc zz.out 4).trans rfl; have ztc := zb zz.out 0; have zuc := zb zz.out 1; have zvc := zb zz.out 2; have zwc := zb zz.out 3; have zxc := zb zz.out 4))
       go_ret
       exact ⟨by first | rfl | (simp [errW_none, errW_some] <;> rfl) | (simp [*, errW_none, errW_some] <;> rfl), by repeat (first | (with_reducible first | exact HB.out | apply zg | apply zd | apply zh | refine zj ?_ zB.out) | exact HB.out)⟩
     ·rw [if_neg c23] at H
      have c23b0 : decide (a0_2 ≤ 2147483647) = false := decide_eq_false c23
      clear c23
      obtain rfl := Option.some.inj H
      go_enter Try.func52, Try.ntmps52
      go_wp2_with (first | ((with_reducible refine zu (N := 1) rfl ?_); refine zy ?hg (N := 1) ?hd (cs := #[.int .i64 a0_0, .int .i64 a0_1, .int .i64 a0_2, .int .i64 a0_3, .int .i64 a0_4]) (t := 52) ?hr ?_; (case hd => rfl); (case hg => rfl); (case hr => first | (go_simp; done) | (go_simp; rfl)); intro zA hg w35 hbox hb; have n0_ := Aside0.mk (zl (by repeat (first | (with_reducible first | exact HB.out | apply zg | apply zd | apply zh) | exact HB.out)) hb); have n1_ := Aside0.mk (hbox); have n2_ := Aside0.mk ((by rw [hg]; exact (zk (by repeat (first | (with_reducible first | exact HB.out | apply zg | apply zd | apply zh) | exact HB.out))) : w.heap.size ≤ zA)); have n3_ := Aside0.mk ((by rw [hg]; exact (zk (by repeat (first | (with_reducible first | exact HB.out | apply zg | apply zd | apply zh) | exact HB.out))) : w.heap.size ≤ zA)); clear HB; have HB := n0_; have zz := n1_; have GW101 := n2_; have zB := n3_; clear n0_ n1_ n2_ n3_; clear hb hbox hg; have zyc : w35.cell? ⟨zA, 0, none⟩ = some (.int .i64 a0_0) := (zc zz.out 0).trans rfl; have zzc : w35.cell? ⟨zA, 1, none⟩ = some (.int .i64 a0_1) := (zc zz.out 1).trans rfl; have zAc : w35.cell? ⟨zA, 2, none⟩ = some (.int .i64 a0_2) := (zc zz.out 2).trans rfl; have zBc : w35.cell? ⟨zA, 3, none⟩ = some (.int .i64 a0_3) := (zc zz.out 3).trans rfl; have zCc : w35.cell? ⟨zA, 4, none⟩ = some (.int .i64 a0_4) := (zc zz.out 4).trans rfl; have zDc := zb zz.out 0; have zEc := zb zz.out 1; have zFc := zb zz.out 2; have zGc := zb zz.out 3; have zHc := zb zz.out 4))
      go_ret
      exact ⟨by first | rfl | (simp [errW_none, errW_some] <;> rfl) | (simp [*, errW_none, errW_some] <;> rfl), by repeat (first | (with_reducible first | exact HB.out | apply zg | apply zd | apply zh | refine zj ?_ zB.out) | exact HB.out)⟩
    ·rw [if_neg c22] at H
     have c22b0 : decide (0 ≤ a0_2) = false := decide_eq_false c22
     clear c22
     obtain rfl := Option.some.inj H
     go_enter Try.func52, Try.ntmps52
     go_wp2_with (first | ((with_reducible refine zu (N := 1) rfl ?_); refine zy ?hg (N := 1) ?hd (cs := #[.int .i64 a0_0, .int .i64 a0_1, .int .i64 a0_2, .int .i64 a0_3, .int .i64 a0_4]) (t := 52) ?hr ?_; (case hd => rfl); (case hg => rfl); (case hr => first | (go_simp; done) | (go_simp; rfl)); intro zA hg w37 hbox hb; have n0_ := Aside0.mk (zl (by repeat (first | (with_reducible first | exact HB.out | apply zg | apply zd | apply zh) | exact HB.out)) hb); have n1_ := Aside0.mk (hbox); have n2_ := Aside0.mk ((by rw [hg]; exact (zk (by repeat (first | (with_reducible first | exact HB.out | apply zg | apply zd | apply zh) | exact HB.out))) : w.heap.size ≤ zA)); have n3_ := Aside0.mk ((by rw [hg]; exact (zk (by repeat (first | (with_reducible first | exact HB.out | apply zg | apply zd | apply zh) | exact HB.out))) : w.heap.size ≤ zA)); clear HB; have HB := n0_; have zz := n1_; have GW101 := n2_; have zB := n3_; clear n0_ n1_ n2_ n3_; clear hb hbox hg; have zIc : w37.cell? ⟨zA, 0, none⟩ = some (.int .i64 a0_0) := (zc zz.out 0).trans rfl; have zJc : w37.cell? ⟨zA, 1, none⟩ = some (.int .i64 a0_1) := (zc zz.out 1).trans rfl; have zKc : w37.cell? ⟨zA, 2, none⟩ = some (.int .i64 a0_2) := (zc zz.out 2).trans rfl; have zLc : w37.cell? ⟨zA, 3, none⟩ = some (.int .i64 a0_3) := (zc zz.out 3).trans rfl; have zMc : w37.cell? ⟨zA, 4, none⟩ = some (.int .i64 a0_4) := (zc zz.out 4).trans rfl; have zNc := zb zz.out 0; have zOc := zb zz.out 1; have zPc := zb zz.out 2; have zQc := zb zz.out 3; have zRc := zb zz.out 4))
     go_ret
     exact ⟨by first | rfl | (simp [errW_none, errW_some] <;> rfl) | (simp [*, errW_none, errW_some] <;> rfl), by repeat (first | (with_reducible first | exact HB.out | apply zg | apply zd | apply zh | refine zj ?_ zB.out) | exact HB.out)⟩
   ·rw [if_neg c21] at H
    have c21b0 : (a0_1 == 1) = false := beq_eq_false_iff_ne.mpr c21
    have c21b1 : (a0_1 != 1) = true := bne_iff_ne.mpr c21
    obtain rfl := Option.some.inj H
    go_enter Try.func52, Try.ntmps52
    go_wp2_with (first | ((with_reducible refine zu (N := 1) rfl ?_); refine zy ?hg (N := 1) ?hd (cs := #[.int .i64 a0_0, .int .i64 a0_1, .int .i64 a0_2, .int .i64 a0_3, .int .i64 a0_4]) (t := 52) ?hr ?_; (case hd => rfl); (case hg => rfl); (case hr => first | (go_simp; done) | (go_simp; rfl)); intro zA hg w39 hbox hb; have n0_ := Aside0.mk (zl (by repeat (first | (with_reducible first | exact HB.out | apply zg | apply zd | apply zh) | exact HB.out)) hb); have n1_ := Aside0.mk (hbox); have n2_ := Aside0.mk ((by rw [hg]; exact (zk (by repeat (first | (with_reducible first | exact HB.out | apply zg | apply zd | apply zh) | exact HB.out))) : w.heap.size ≤ zA)); have n3_ := Aside0.mk ((by rw [hg]; exact (zk (by repeat (first | (with_reducible first | exact HB.out | apply zg | apply zd | apply zh) | exact HB.out))) : w.heap.size ≤ zA)); clear HB; have HB := n0_; have zz := n1_; have GW101 := n2_; have zB := n3_; clear n0_ n1_ n2_ n3_; clear hb hbox hg; have zSc : w39.cell? ⟨zA, 0, none⟩ = some (.int .i64 a0_0) := (zc zz.out 0).trans rfl; have zTc : w39.cell? ⟨zA, 1, none⟩ = some (.int .i64 a0_1) := (zc zz.out 1).trans rfl; have zUc : w39.cell? ⟨zA, 2, none⟩ = some (.int .i64 a0_2) := (zc zz.out 2).trans rfl; have zVc : w39.cell? ⟨zA, 3, none⟩ = some (.int .i64 a0_3) := (zc zz.out 3).trans rfl; have zWc : w39.cell? ⟨zA, 4, none⟩ = some (.int .i64 a0_4) := (zc zz.out 4).trans rfl; have zXc := zb zz.out 0; have zYc := zb zz.out 1; have zZc := zb zz.out 2; have zad := zb zz.out 3; have zbd := zb zz.out 4))
    go_ret
    exact ⟨by first | rfl | (simp [errW_none, errW_some] <;> rfl) | (simp [*, errW_none, errW_some] <;> rfl), by repeat (first | (with_reducible first | exact HB.out | apply zg | apply zd | apply zh | refine zj ?_ zB.out) | exact HB.out)⟩
 ·rw [if_neg c2] at H
  have c2b0 : decide (1 ≤ a0_0) = false := decide_eq_false c2
  clear c2
  obtain rfl := Option.some.inj H
  go_enter Try.func52, Try.ntmps52
  go_wp2_with (first | ((with_reducible refine zu (N := 1) rfl ?_); refine zy ?hg (N := 1) ?hd (cs := #[.int .i64 a0_0, .int .i64 a0_1, .int .i64 a0_2, .int .i64 a0_3, .int .i64 a0_4]) (t := 52) ?hr ?_; (case hd => rfl); (case hg => rfl); (case hr => first | (go_simp; done) | (go_simp; rfl)); intro zA hg w41 hbox hb; have n0_ := Aside0.mk (zl (by repeat (first | (with_reducible first | exact HB.out | apply zg | apply zd | apply zh) | exact HB.out)) hb); have n1_ := Aside0.mk (hbox); have n2_ := Aside0.mk ((by rw [hg]; exact (zk (by repeat (first | (with_reducible first | exact HB.out | apply zg | apply zd | apply zh) | exact HB.out))) : w.heap.size ≤ zA)); have n3_ := Aside0.mk ((by rw [hg]; exact (zk (by repeat (first | (with_reducible first | exact HB.out | apply zg | apply zd | apply zh) | exact HB.out))) : w.heap.size ≤ zA)); clear HB; have HB := n0_; have zz := n1_; have GW101 := n2_; have zB := n3_; clear n0_ n1_ n2_ n3_; clear hb hbox hg; have zcd : w41.cell? ⟨zA, 0, none⟩ = some (.int .i64 a0_0) := (zc zz.out 0).trans rfl; have zdd : w41.cell? ⟨zA, 1, none⟩ = some (.int .i64 a0_1) := (zc zz.out 1).trans rfl; have zed : w41.cell? ⟨zA, 2, none⟩ = some (.int .i64 a0_2) := (zc zz.out 2).trans rfl; have zfd : w41.cell? ⟨zA, 3, none⟩ = some (.int .i64 a0_3) := (zc zz.out 3).trans rfl; have zgd : w41.cell? ⟨zA, 4, none⟩ = some (.int .i64 a0_4) := (zc zz.out 4).trans rfl; have zhd := zb zz.out 0; have zid := zb zz.out 1; have zjd := zb zz.out 2; have zkd := zb zz.out 3; have zld := zb zz.out 4))
  go_ret
  exact ⟨by first | rfl | (simp [errW_none, errW_some] <;> rfl) | (simp [*, errW_none, errW_some] <;> rfl), by repeat (first | (with_reducible first | exact HB.out | apply zg | apply zd | apply zh | refine zj ?_ zB.out) | exact HB.out)⟩

def impl_big.l0 : Nat → List Int → Int → Int → Option (List Int)
 | 0, _, _, _ => none
 | k + 1, x0, x2, x7 => if x7 ≥ 0 then (if 0 ≤ (wrap64 (8 * x7)) then (if x0.length < 140737488355328 then (impl_big.l0 k (x0 ++ [(shr .u64 (IntKind.u64.wrap (x2)) (wrap64 (8 * x7))) % 256]) x2 (wrap64 (x7 - 1))) else (none)) else (none)) else (some x0)
def impl_big.f (k : Nat) (l0 : List Int) (a1 : Int) (a2 : Int) : Option (List Int) := impl_big.l0 k l0 a2 (wrap64 (a1 - 1))
theorem impl_big.mono_l : ∀ k, (∀ y0 y1 y2, LeO (impl_big.l0 k y0 y1 y2) (impl_big.l0 (k + 1) y0 y1 y2))
 | 0 => fun _ _ _ r h => by simp [impl_big.l0] at h
 | k + 1 => by
  have ih0 := impl_big.mono_l k
  ·intro y0 y1 y2
   unfold impl_big.l0
   repeat' first
   | (with_reducible exact ih0 _ _ _)
   | (with_reducible exact LeO.refl _)
   | (with_reducible exact LeO.none _)
   | (with_reducible refine LeO.ite ?_ ?_)
   | (with_reducible refine LeO.bind ?_ (fun _ => ?_))
   | exact ih0 _ _ _
   | exact LeO.none _
   | refine LeO.ite ?_ ?_
   | refine LeO.bind ?_ (fun _ => ?_)
theorem impl_big.mono : ∀ a0 a1 a2 k, LeO (impl_big.f k a0 a1 a2) (impl_big.f (k + 1) a0 a1 a2) := by
 intro a0 a1 a2 k
 have ih0 := impl_big.mono_l k
 unfold impl_big.f
 repeat' first
   | (with_reducible exact ih0 _ _ _)
   | (with_reducible exact LeO.refl _)
   | (with_reducible exact LeO.none _)
   | (with_reducible refine LeO.ite ?_ ?_)
   | (with_reducible refine LeO.bind ?_ (fun _ => ?_))
   | exact ih0 _ _ _
   | exact LeO.none _
   | refine LeO.ite ?_ ?_
   | refine LeO.bind ?_ (fun _ => ?_)
set_option maxHeartbeats 8000000 in
set_option maxRecDepth 100000 in
theorem impl_big.calls (k : Nat) (P0_ : Nat → Prop) (u9000_ : Value) (l0 : List Int) (a1 : Int) (a2 : Int) (r : List Int) (w0 w : World) (hB : Below w0.heap.size w0 w) (zB : Kd.R (Kd.int .u8) 5 w w0.heap.size P0_ u9000_ l0) (h : impl_big.f k l0 a1 a2 = some r) :
  Calls Try.prog 76 #[u9000_, .int .i64 a1, .int .i64 a2] w fun e w' => ∃ v0_ : Value, e = .returned (v0_) ∧ Kd.R (Kd.int .u8) 5 w' w0.heap.size (fun k_ => (P0_ k_ ∨ w.heap.size ≤ k_)) v0_ r ∧ Below w0.heap.size w0 w' ∧ Kept w w' (fun k_ => P0_ k_) := by
 have zC := Aside0.mk (show Kd.R (Kd.int .u8) 5 w w0.heap.size (fun k_ => (P0_ k_ ∨ w.heap.size ≤ k_)) u9000_ l0 from Kd.R_mono zB (fun k_ hk => (.inl hk)))
 have HK := Aside0.mk (Kept.refl w (fun k_ => P0_ k_))
 have HW0 := Aside0.mk hB.size
 have HB := Aside0.mk hB
 clear hB
 have H : (impl_big.l0 k l0 a2 (wrap64 (a1 - 1))) = some r := h
 clear h
 have H' := Aside0.mk H
 clear H
 go_enter Try.func76, Try.ntmps76
 go_wp2
 go_loopg [0, 7] k (fun kq v0 v7 w' => ∃ (x0_1 : List Int) (x7_1 : Int), v7 = .int .i64 x7_1 ∧ Aside0 (impl_big.l0 kq x0_1 a2 x7_1 = some r) ∧ Aside0 (kq ≤ k) ∧ Aside0 (Kd.R (Kd.int .u8) 5 w' w0.heap.size (fun k_ => (P0_ k_ ∨ w.heap.size ≤ k_)) v0 x0_1) ∧ Aside0 (Kept w w' (fun k_ => P0_ k_)) ∧ Aside0 (Below w0.heap.size w0 w'))
 case atStart => exact ⟨(l0), (wrap64 (a1 - 1)), (by first | rfl | (simp; done) | (simp [*]; done)), H', ⟨Nat.le_refl _⟩, ⟨by (with_reducible repeat (first | apply Kd.R_alloc | apply Kd.R_drewN | apply Kd.R_drew)); exact zC.out⟩, ⟨by repeat (first | (with_reducible first | exact HK.out | apply Kept.alloc | apply Kept.drewN | apply Kept.drew) | exact HK.out)⟩, ⟨by repeat (first | (with_reducible first | exact HB.out | apply zg | apply zd | apply zh) | exact HB.out)⟩⟩
 case round =>
  clear H'
  try clear p2
  obtain ⟨x0_1, x7_1, rfl, HA, HK1, zz, HK, HB⟩ := hrel
  cases gk with
  | zero => exact absurd HA.out (by simp [impl_big.l0])
  | succ k1 =>
   have H := HA.out
   clear HA
   simp only [impl_big.l0] at H
   by_cases c4 : x7_1 ≥ 0
   ·rw [if_pos c4] at H
    have c4b0 : decide (0 ≤ x7_1) = true := decide_eq_true c4
    clear c4
    obtain ⟨ji5, hji5⟩ : ∃ j_ : Int, (wrap64 (8 * x7_1)) = j_ := ⟨_, rfl⟩
    replace H : (if 0 ≤ (ji5) then (if x0_1.length < 140737488355328 then (impl_big.l0 k1 (x0_1 ++ [(shr .u64 (IntKind.u64.wrap (a2)) (ji5)) % 256]) a2 (wrap64 (x7_1 - 1))) else (none)) else (none)) = some r := by first | (rw [hji5] at H; exact H) | (simp only [hji5] at H ⊢; exact H)
    have hji5w : (IntKind.i64.wrap (8 * x7_1)) = ji5 := (zv _).trans hji5
    by_cases c6 : 0 ≤ (ji5)
    ·rw [if_pos c6] at H
     have c6b0 := eq_true c6
     have c6b1 : decide (0 ≤ (ji5)) = true := decide_eq_true c6
     clear c6
     obtain ⟨ji7, hji7⟩ : ∃ j_ : Int, (shr .u64 (IntKind.u64.wrap (a2)) (ji5)) = j_ := ⟨_, rfl⟩
     replace H : (if x0_1.length < 140737488355328 then (impl_big.l0 k1 (x0_1 ++ [(ji7) % 256]) a2 (wrap64 (x7_1 - 1))) else (none)) = some r := by first | (rw [hji7] at H; exact H) | (simp only [hji7] at H ⊢; exact H)
     have hji7_ : ((IntKind.u64.wrap (a2)) / 2 ^ min (ji5).toNat 64) = ji7 := hji7
     have hji7z : (ji5) ≤ 64 → ((IntKind.u64.wrap (a2)) / 2 ^ (ji5).toNat) = ji7 := shr_small hji7
     by_cases c8 : x0_1.length < 140737488355328
     ·rw [if_pos c8] at H
      have LMc8 := Aside0.mk c8
      clear c8
      obtain ⟨y102, hy102⟩ : ∃ y_ : List Int, y_ = (x0_1 ++ [(ji7) % 256]) := ⟨_, rfl⟩
      replace H : (impl_big.l0 k1 y102 a2 (wrap64 (x7_1 - 1))) = some r := by first | (rw [hy102]; with_reducible exact H) | (have H2_ := (Option.bind_some _ _).symm.trans H; rw [hy102]; with_reducible exact H2_) | (have H2_ := (Option.bind_some _ _).symm.trans H; with_reducible exact H2_) | with_reducible exact H | (rw [hy102]; exact H) | exact H
      have Ny102 := Aside0.mk hy102
      clear hy102
      have H' := Aside0.mk H
      clear H
      go_wp2_with (first | ((with_reducible refine gate_builtin (b := .append) (xs := #[.tmp 14, .tmp 21]) rfl ?_); at_builtin; refine Kd.R_append (Kd.int .u8) (w0 := w0) w0.heap.size rfl (.tmp 14) (.tmp 21) 22 5 (.int .u8 0) 1 rfl Try.underlying22 info5 rfl (by decide) (by omega) u0 x0_1 ((ji7) % 256) [.int .u8 ((ji7) % 256)] (fun k_ => (P0_ k_ ∨ w.heap.size ≤ k_)) (fun _ => False) rfl rfl ?aP (fun _ hk => hk.elim) ?aF ?aO ?aB ?aS ?aL ?_; (case aP => exact rfl); (case aB => exact (by repeat (first | (with_reducible first | exact HB.out | apply zg | apply zd | apply zh) | exact HB.out))); (case aF => exact (fun k_ hk => (.inr (Nat.le_trans (by first | exact HK.out.1 | exact (show Kept w _ (fun k_ => P0_ k_) from by repeat (first | (with_reducible first | exact HK.out | apply Kept.alloc | apply Kept.drewN | apply Kept.drew) | exact HK.out)).1) hk)))); (case aO => exact (by (with_reducible repeat (first | apply Kd.R_alloc | apply Kd.R_drewN | apply Kd.R_drew)); exact zz.out)); (case aS => exact (zk (by repeat (first | (with_reducible first | exact HB.out | apply zg | apply zd | apply zh) | exact HB.out)))); (case aL => have := LMc8.out; omega); intro v103 w9 ho hb hg hat; rw [← Ny102.out] at ho; have n0_ := Aside0.mk (hb); have n1_ := Aside0.mk (Kept.of_grown (S := (fun k_ => P0_ k_)) hg (by repeat (first | (with_reducible first | exact HK.out | apply Kept.alloc | apply Kept.drewN | apply Kept.drew) | exact HK.out)) (fun k_ e_ => (zz.out.1 k_ e_))); have n2_ := Aside0.mk (ho); clear HB; clear HK; clear zz; have HB := n0_; have HK := n1_; have zA := n2_; clear n0_ n1_ n2_; clear ho hb hg hat))
      go_roundg k1
      case measure => have := HK1.out; omega
      case rel => exact ⟨(y102), (wrap64 (x7_1 - 1)), (by first | rfl | (simp; done) | (simp [*]; done)), H', ⟨by have := HK1.out; omega⟩, ⟨by (with_reducible repeat (first | apply Kd.R_alloc | apply Kd.R_drewN | apply Kd.R_drew)); exact zA.out⟩, ⟨by repeat (first | (with_reducible first | exact HK.out | apply Kept.alloc | apply Kept.drewN | apply Kept.drew) | exact HK.out)⟩, ⟨by repeat (first | (with_reducible first | exact HB.out | apply zg | apply zd | apply zh) | exact HB.out)⟩⟩
     ·rw [if_neg c8] at H
      exact absurd H (by simp)
    ·rw [if_neg c6] at H
     exact absurd H (by simp)
   ·rw [if_neg c4] at H
    have c4b0 : decide (0 ≤ x7_1) = false := decide_eq_false c4
    clear c4
    obtain rfl := Option.some.inj H
    go_wp2
    go_ret
    exact ⟨_, by first | rfl | (simp [errW_none, errW_some] <;> rfl) | (simp [*, errW_none, errW_some] <;> rfl), by (with_reducible repeat (first | apply Kd.R_alloc | apply Kd.R_drewN | apply Kd.R_drew)); exact zz.out, by repeat (first | (with_reducible first | exact HB.out | apply zg | apply zd | apply zh) | exact HB.out), by repeat (first | (with_reducible first | exact HK.out | apply Kept.alloc | apply Kept.drewN | apply Kept.drew) | exact HK.out)⟩

def impl_Super_block.f (k : Nat) (a0_0 : Int) (a0_1 : Int) (a0_2 : Int) (a0_3 : Int) (a0_4 : Int) : Option (List Int) := ((impl_big.f k ([] : List Int) 8 a0_0).bind fun t106 => ((impl_big.f k t106 1 a0_1).bind fun t109 => ((impl_big.f k t109 4 a0_2).bind fun t112 => ((impl_big.f k t112 4 a0_3).bind fun t115 => ((impl_big.f k t115 4 a0_4).bind fun t118 => (if 0 ≤ (wrap64 (56 - (t118.length : Int))) then (if t118.length + (wrap64 (56 - (t118.length : Int)) : Int).toNat < 140737488355328 then ((impl_big.f k (t118 ++ List.replicate (wrap64 (56 - (t118.length : Int)) : Int).toNat 0) 8 a0_0).bind fun t124 => (some t124)) else (none)) else (none))))))).bind fun r_ => if r_.length = 64 then some r_ else none
theorem impl_Super_block.mono : ∀ a0 a1 a2 a3 a4 k, LeO (impl_Super_block.f k a0 a1 a2 a3 a4) (impl_Super_block.f (k + 1) a0 a1 a2 a3 a4) := by
 intro a0 a1 a2 a3 a4 k
 unfold impl_Super_block.f
 repeat' first
   | (with_reducible exact impl_big.mono _ _ _ _)
   | (with_reducible exact LeO.refl _)
   | (with_reducible exact LeO.none _)
   | (with_reducible refine LeO.ite ?_ ?_)
   | (with_reducible refine LeO.bind ?_ (fun _ => ?_))
   | exact impl_big.mono _ _ _ _
   | exact LeO.none _
   | refine LeO.ite ?_ ?_
   | refine LeO.bind ?_ (fun _ => ?_)
def impl_Super_block.T2 : Bool × List (List Nat × List Nat) := (true, [([], []), ([], []), ([1], [1]), ([0, 2], [0, 2]), ([], []), ([4], [4]), ([3, 5, 3], [3, 5]), ([], []), ([7], [7]), ([6, 8, 6], [6, 8]), ([], []), ([10], [10]), ([9, 11, 9], [9, 11]), ([12, 12, 0, 1, 2, 3, 4, 5, 6, 7, 8, 9, 10, 11, 12], [0, 12])])
def impl_Super_block.B2 : List Nat := [0, 0, 2, 7, 0, 16, 63, 0, 128, 511, 0, 1024, 4095, 8191]
theorem impl_Super_block.tab2 : rtab .any (opsOf Try.f53 2) = impl_Super_block.T2 := by kernel_rfl
theorem impl_Super_block.bits2 : waitsOk impl_Super_block.T2.2 impl_Super_block.B2 = true := by kernel_rfl
set_option maxHeartbeats 8000000 in
set_option maxRecDepth 100000 in
theorem impl_Super_block.calls (k : Nat) (a0_0 : Int) (a0_1 : Int) (a0_2 : Int) (a0_3 : Int) (a0_4 : Int) (r : List Int) (w : World) (h : impl_Super_block.f k a0_0 a0_1 a0_2 a0_3 a0_4 = some r) :
  Calls Try.prog 53 #[.agg #[.int .i64 a0_0, .int .i64 a0_1, .int .i64 a0_2, .int .i64 a0_3, .int .i64 a0_4]] w fun e w' => e = .returned (.agg (r.map (Value.int .u8)).toArray) ∧ Below w.heap.size w w' := by
 have hu52 := Try.underlying52
 have HB := Aside0.mk (Below.refl w.heap.size w)
 have H : ((impl_big.f k ([] : List Int) 8 a0_0).bind fun t106 => ((impl_big.f k t106 1 a0_1).bind fun t109 => ((impl_big.f k t109 4 a0_2).bind fun t112 => ((impl_big.f k t112 4 a0_3).bind fun t115 => ((impl_big.f k t115 4 a0_4).bind fun t118 => (if 0 ≤ (wrap64 (56 - (t118.length : Int))) then (if t118.length + (wrap64 (56 - (t118.length : Int)) : Int).toNat < 140737488355328 then ((impl_big.f k (t118 ++ List.replicate (wrap64 (56 - (t118.length : Int)) : Int).toNat 0) 8 a0_0).bind fun t124 => (some t124)) else (none)) else (none))))))) = some r := (Go.Proofs.YtejecjjimggjeaaH.guard_len h).1
 have HLEN := Aside0.mk (Go.Proofs.YtejecjjimggjeaaH.guard_len h).2
 clear h
 replace H := Option.bind_eq_some_iff.mp H
 obtain ⟨t106, A20, H⟩ := H
 replace H : ((impl_big.f k t106 1 a0_1).bind fun t109 => ((impl_big.f k t109 4 a0_2).bind fun t112 => ((impl_big.f k t112 4 a0_3).bind fun t115 => ((impl_big.f k t115 4 a0_4).bind fun t118 => (if 0 ≤ (wrap64 (56 - (t118.length : Int))) then (if t118.length + (wrap64 (56 - (t118.length : Int)) : Int).toNat < 140737488355328 then ((impl_big.f k (t118 ++ List.replicate (wrap64 (56 - (t118.length : Int)) : Int).toNat 0) 8 a0_0).bind fun t124 => (some t124)) else (none)) else (none)))))) = some r := H
 have A2 := Aside0.mk A20
 clear A20
 replace H := Option.bind_eq_some_iff.mp H
 obtain ⟨t109, A30, H⟩ := H
 replace H : ((impl_big.f k t109 4 a0_2).bind fun t112 => ((impl_big.f k t112 4 a0_3).bind fun t115 => ((impl_big.f k t115 4 a0_4).bind fun t118 => (if 0 ≤ (wrap64 (56 - (t118.length : Int))) then (if t118.length + (wrap64 (56 - (t118.length : Int)) : Int).toNat < 140737488355328 then ((impl_big.f k (t118 ++ List.replicate (wrap64 (56 - (t118.length : Int)) : Int).toNat 0) 8 a0_0).bind fun t124 => (some t124)) else (none)) else (none))))) = some r := H
 have A3 := Aside0.mk A30
 clear A30
 replace H := Option.bind_eq_some_iff.mp H
 obtain ⟨t112, A40, H⟩ := H
 replace H : ((impl_big.f k t112 4 a0_3).bind fun t115 => ((impl_big.f k t115 4 a0_4).bind fun t118 => (if 0 ≤ (wrap64 (56 - (t118.length : Int))) then (if t118.length + (wrap64 (56 - (t118.length : Int)) : Int).toNat < 140737488355328 then ((impl_big.f k (t118 ++ List.replicate (wrap64 (56 - (t118.length : Int)) : Int).toNat 0) 8 a0_0).bind fun t124 => (some t124)) else (none)) else (none)))) = some r := H
 have A4 := Aside0.mk A40
 clear A40
 replace H := Option.bind_eq_some_iff.mp H
 obtain ⟨t115, A50, H⟩ := H
 replace H : ((impl_big.f k t115 4 a0_4).bind fun t118 => (if 0 ≤ (wrap64 (56 - (t118.length : Int))) then (if t118.length + (wrap64 (56 - (t118.length : Int)) : Int).toNat < 140737488355328 then ((impl_big.f k (t118 ++ List.replicate (wrap64 (56 - (t118.length : Int)) : Int).toNat 0) 8 a0_0).bind fun t124 => (some t124)) else (none)) else (none))) = some r := H
 have A5 := Aside0.mk A50
 clear A50
 replace H := Option.bind_eq_some_iff.mp H
 obtain ⟨t118, A60, H⟩ := H
 replace H : (if 0 ≤ (wrap64 (56 - (t118.length : Int))) then (if t118.length + (wrap64 (56 - (t118.length : Int)) : Int).toNat < 140737488355328 then ((impl_big.f k (t118 ++ List.replicate (wrap64 (56 - (t118.length : Int)) : Int).toNat 0) 8 a0_0).bind fun t124 => (some t124)) else (none)) else (none)) = some r := H
 have A6 := Aside0.mk A60
 clear A60
 obtain ⟨ji7, hji7⟩ : ∃ j_ : Int, (wrap64 (56 - (t118.length : Int))) = j_ := ⟨_, rfl⟩
 replace H : (if 0 ≤ (ji7) then (if t118.length + (ji7 : Int).toNat < 140737488355328 then ((impl_big.f k (t118 ++ List.replicate (ji7 : Int).toNat 0) 8 a0_0).bind fun t124 => (some t124)) else (none)) else (none)) = some r := by first | (rw [hji7] at H; exact H) | (simp only [hji7] at H ⊢; exact H)
 (try rw [hji7] at A2)
 (try rw [hji7] at A3)
 (try rw [hji7] at A4)
 (try rw [hji7] at A5)
 (try rw [hji7] at A6)
 have hji7w : (IntKind.i64.wrap (56 - (t118.length : Int))) = ji7 := (zv _).trans hji7
 by_cases c8 : 0 ≤ (ji7)
 ·rw [if_pos c8] at H
  have c8b0 := eq_true c8
  have c8b1 : decide (0 ≤ (ji7)) = true := decide_eq_true c8
  clear c8
  by_cases c9 : t118.length + (ji7 : Int).toNat < 140737488355328
  ·rw [if_pos c9] at H
   have LMc9 := Aside0.mk c9
   clear c9
   obtain ⟨y121, hy121⟩ : ∃ y_ : List Int, y_ = (t118 ++ List.replicate (ji7 : Int).toNat 0) := ⟨_, rfl⟩
   replace H : ((impl_big.f k y121 8 a0_0).bind fun t124 => (some t124)) = some r := by first | (rw [hy121]; with_reducible exact H) | (have H2_ := (Option.bind_some _ _).symm.trans H; rw [hy121]; with_reducible exact H2_) | (have H2_ := (Option.bind_some _ _).symm.trans H; with_reducible exact H2_) | with_reducible exact H | (rw [hy121]; exact H) | exact H
   have Ny121 := Aside0.mk hy121
   clear hy121
   replace H := Option.bind_eq_some_iff.mp H
   obtain ⟨t124, A100, H⟩ := H
   replace H : (some t124) = some r := H
   have A10 := Aside0.mk A100
   clear A100
   obtain rfl := Option.some.inj H
   go_enter Try.func53, Try.ntmps53
   try go_wp2_with (first | ((with_reducible refine zu (N := 1) rfl ?_); refine zy ?hg (N := 1) ?hd (cs := #[.int .i64 a0_0, .int .i64 a0_1, .int .i64 a0_2, .int .i64 a0_3, .int .i64 a0_4]) (t := 52) ?hr ?_; (case hd => rfl); (case hg => rfl); (case hr => first | (go_simp; done) | (go_simp; rfl)); intro zB hg w11 hbox hb; have n0_ := Aside0.mk (zl (by repeat (first | (with_reducible first | exact HB.out | apply zg | apply zd | apply zh) | exact HB.out)) hb); have n1_ := Aside0.mk (hbox); have n2_ := Aside0.mk ((by rw [hg]; exact (zk (by repeat (first | (with_reducible first | exact HB.out | apply zg | apply zd | apply zh) | exact HB.out))) : w.heap.size ≤ zB)); have n3_ := Aside0.mk ((by rw [hg]; exact (zk (by repeat (first | (with_reducible first | exact HB.out | apply zg | apply zd | apply zh) | exact HB.out))) : w.heap.size ≤ zB)); clear HB; have HB := n0_; have zz := n1_; have GW105 := n2_; have zE := n3_; clear n0_ n1_ n2_ n3_; clear hb hbox hg; have zX : w11.cell? ⟨zB, 0, none⟩ = some (.int .i64 a0_0) := (zc zz.out 0).trans rfl; have zY : w11.cell? ⟨zB, 1, none⟩ = some (.int .i64 a0_1) := (zc zz.out 1).trans rfl; have zZ : w11.cell? ⟨zB, 2, none⟩ = some (.int .i64 a0_2) := (zc zz.out 2).trans rfl; have zab : w11.cell? ⟨zB, 3, none⟩ = some (.int .i64 a0_3) := (zc zz.out 3).trans rfl; have zbb : w11.cell? ⟨zB, 4, none⟩ = some (.int .i64 a0_4) := (zc zz.out 4).trans rfl; have zcb := zb zz.out 0; have zdb := zb zz.out 1; have zeb := zb zz.out 2; have zfb := zb zz.out 3; have zgb := zb zz.out 4) | ((with_reducible refine zu (N := 2) rfl ?_); refine Go.Proofs.YtejecjjimggjeaaH.alloc_arr rfl (t := 76) rfl (N := 2) rfl (zs := (Array.replicate 64 (.int .u8 0))) (n := 64) (by kernel_rfl) ?_; intro zK hg w998 hbox hb _; have n0_ := Aside0.mk (zl HB.out hb); have n1_ := Aside0.mk (zr zz.out hb); have zA := Aside0.mk hbox; have zM := Aside0.mk ((by rw [hg]; exact zk HB.out) : w.heap.size ≤ zK); clear HB; clear zz; have HB := n0_; have zz := n1_; clear n0_ n1_; clear hb hbox hg; have zN : w998.cell? ⟨zB, 0, none⟩ = some (.int .i64 a0_0) := (zc zz.out 0).trans rfl; have zO : w998.cell? ⟨zB, 1, none⟩ = some (.int .i64 a0_1) := (zc zz.out 1).trans rfl; have zP : w998.cell? ⟨zB, 2, none⟩ = some (.int .i64 a0_2) := (zc zz.out 2).trans rfl; have zQ : w998.cell? ⟨zB, 3, none⟩ = some (.int .i64 a0_3) := (zc zz.out 3).trans rfl; have zR : w998.cell? ⟨zB, 4, none⟩ = some (.int .i64 a0_4) := (zc zz.out 4).trans rfl; have zS := zb zz.out 0; have zT := zb zz.out 1; have zU := zb zz.out 2; have zV := zb zz.out 3; have zW := zb zz.out 4) | ((with_reducible refine zo (f := 76) rfl ?_); refine goesL_ (some 6) rfl rfl Try.func76 (by kernel_rfl) rfl #[.slice none 0 0, .int .i64 8, .int .i64 a0_0] rfl (by (try simp only [List.map_toArray, List.map_cons, List.map_nil]); first | done | rfl | (simp only [List.length_drop, List.length_take]; rfl)) ?_; (refine (impl_big.calls k (fun k_ => some k_ = (.slice none 0 0 : Value).ownBlock) (.slice none 0 0) ([] : List Int) 8 a0_0 t106 w _ ?side1 ?side2 A2.out).mono ?_); (case side1 => repeat (first | (with_reducible first | exact HB.out | apply zg | apply zd | apply zh | refine zj ?_ zE.out) | exact HB.out)); (case side2 => exact Kd.R_nil _ _ _ _ _); rintro e w13 ⟨v107, rfl, zC, hb, hkp⟩; refine ⟨_, rfl, ?_⟩; have n0_ := Aside0.mk (blk_kept (by (with_reducible repeat (first | refine zf ?_ _ | refine zi ?_ | refine ze ?_ _)); exact zz.out) hkp (fun hs_ => (fun e_ => by simp [Value.ownBlock] at e_) hs_)); have n999_ := Aside0.mk (blk_kept (by (with_reducible repeat (first | refine zf ?_ _ | refine zi ?_ | refine ze ?_ _)); exact zA.out) hkp (fun hs_ => (fun e_ => by simp [Value.ownBlock] at e_) hs_)); have n1_ := Aside0.mk (Kd.R_mono (ok' := fun k_ => True) zC (fun k_ hk_ => trivial)); have n2_ := Aside0.mk (hb); clear zz; clear zA; clear HB; have zz := n0_; have zA := n999_; clear n999_; have zD := n1_; have HB := n2_; clear n0_ n1_ n2_; (try clear hb); (try clear hkp); (try clear zC)))
   have n0_ := Aside0.mk (Kd.R_drew zD.out)
   have n1_ := Aside0.mk (zi zz.out); have n999_ := Aside0.mk (zi zA.out)
   have n2_ := Aside0.mk (zh HB.out)
   clear zD
   clear zz; clear zA
   clear HB
   have zD := n0_
   have zz := n1_; have zA := n999_; clear n999_
   have HB := n2_
   clear n0_ n1_ n2_
   obtain ⟨Ao15, co15, eo15⟩ := Kd.R_slice zD.out
   (first | subst eo15 | (injection eo15 with f1_ f2_ f3_; have f4_ := f1_.symm; have f5_ := f3_.symm; clear f1_ f2_ f3_; subst f4_; subst f5_))
   refine start_ (n := 14) (S := fun w' => w'.cell? ⟨zB, 0, none⟩ = some (.int .i64 a0_0) ∧ w'.cell? ⟨zB, 1, none⟩ = some (.int .i64 a0_1) ∧ w'.cell? ⟨zB, 2, none⟩ = some (.int .i64 a0_2) ∧ w'.cell? ⟨zB, 3, none⟩ = some (.int .i64 a0_3) ∧ w'.cell? ⟨zB, 4, none⟩ = some (.int .i64 a0_4)) (ds := []) #[false, false, false, false, false, false, false, false, false, false, false, false, false, false] (by kernel_rfl) rfl rfl ⟨(zc zz.out 0).trans rfl, (zc zz.out 1).trans rfl, (zc zz.out 2).trans rfl, (zc zz.out 3).trans rfl, (zc zz.out 4).trans rfl⟩ (fun hHeld => ?_); refine with_tabW impl_Super_block.tab2 impl_Super_block.bits2 (fun HT_ HW_ => ?_)
   generalize w13.drew = w14 at zD zz zA HB hHeld ⊢
   refine pure_ (i := 0) (N := some 7) (v := ?_) (a' := ?_) #[true, false, false, false, false, false, false, false, false, false, false, false, false, false] rfl rfl (any_of HT_.out (by kernel_rfl)) (fun _ _ _ h => h) (Or.inl ⟨by rfl, ?_⟩) ?_ ?_
   rotate_left
   ·intro w'
    go_simp
    with_reducible rfl
   rotate_left
   ·simp only [Act.put, List.setIfInBounds_toArray, List.set_cons_zero, List.set_cons_succ, zv, zx]
    rfl
   refine pure_ (i := 1) (N := some 8) (v := ?_) (a' := ?_) #[true, true, false, false, false, false, false, false, false, false, false, false, false, false] rfl rfl (any_of HT_.out (by kernel_rfl)) (fun _ _ _ h => h) (Or.inl ⟨by rfl, ?_⟩) ?_ ?_
   rotate_left
   ·intro w'
    go_simp
    with_reducible rfl
   rotate_left
   ·simp only [Act.put, List.setIfInBounds_toArray, List.set_cons_zero, List.set_cons_succ, zv, zx]
    rfl
   refine pure_ (i := 4) (N := some 11) (v := ?_) (a' := ?_) #[true, true, false, false, true, false, false, false, false, false, false, false, false, false] rfl rfl (any_of HT_.out (by kernel_rfl)) (fun _ _ _ h => h) (Or.inl ⟨by rfl, ?_⟩) ?_ ?_
   rotate_left
   ·intro w'
    go_simp
    with_reducible rfl
   rotate_left
   ·simp only [Act.put, List.setIfInBounds_toArray, List.set_cons_zero, List.set_cons_succ, zv, zx]
    rfl
   refine pure_ (i := 7) (N := some 14) (v := ?_) (a' := ?_) #[true, true, false, false, true, false, false, true, false, false, false, false, false, false] rfl rfl (any_of HT_.out (by kernel_rfl)) (fun _ _ _ h => h) (Or.inl ⟨by rfl, ?_⟩) ?_ ?_
   rotate_left
   ·intro w'
    go_simp
    with_reducible rfl
   rotate_left
   ·simp only [Act.put, List.setIfInBounds_toArray, List.set_cons_zero, List.set_cons_succ, zv, zx]
    rfl
   refine pure_ (i := 10) (N := some 17) (v := ?_) (a' := ?_) #[true, true, false, false, true, false, false, true, false, false, true, false, false, false] rfl rfl (any_of HT_.out (by kernel_rfl)) (fun _ _ _ h => h) (Or.inl ⟨by rfl, ?_⟩) ?_ ?_
   rotate_left
   ·intro w'
    go_simp
    with_reducible rfl
   rotate_left
   ·simp only [Act.put, List.setIfInBounds_toArray, List.set_cons_zero, List.set_cons_succ, zv, zx]
    rfl
   refine take_ (i := 2) (N := some 9) (v := ?_) (a' := ?_) #[true, true, true, false, true, false, false, true, false, false, true, false, false, false] rfl rfl (take_ofW HT_.out HW_.out (by kernel_rfl)) (fun _ _ _ h => h) (Or.inl ⟨by rfl, ?_⟩) hHeld ?_ ?_
   rotate_left
   ·rintro w' ⟨s0, s1, s2, s3, s4⟩
    go_simp
    with_reducible rfl
   rotate_left
   ·simp only [Act.put, List.setIfInBounds_toArray, List.set_cons_zero, List.set_cons_succ, zv, zx]
    rfl
   refine take_ (i := 5) (N := some 12) (v := ?_) (a' := ?_) #[true, true, true, false, true, true, false, true, false, false, true, false, false, false] rfl rfl (take_ofW HT_.out HW_.out (by kernel_rfl)) (fun _ _ _ h => h) (Or.inl ⟨by rfl, ?_⟩) hHeld ?_ ?_
   rotate_left
   ·rintro w' ⟨s0, s1, s2, s3, s4⟩
    go_simp
    with_reducible rfl
   rotate_left
   ·simp only [Act.put, List.setIfInBounds_toArray, List.set_cons_zero, List.set_cons_succ, zv, zx]
    rfl
   refine take_ (i := 8) (N := some 15) (v := ?_) (a' := ?_) #[true, true, true, false, true, true, false, true, true, false, true, false, false, false] rfl rfl (take_ofW HT_.out HW_.out (by kernel_rfl)) (fun _ _ _ h => h) (Or.inl ⟨by rfl, ?_⟩) hHeld ?_ ?_
   rotate_left
   ·rintro w' ⟨s0, s1, s2, s3, s4⟩
    go_simp
    with_reducible rfl
   rotate_left
   ·simp only [Act.put, List.setIfInBounds_toArray, List.set_cons_zero, List.set_cons_succ, zv, zx]
    rfl
   refine take_ (i := 11) (N := some 18) (v := ?_) (a' := ?_) #[true, true, true, false, true, true, false, true, true, false, true, true, false, false] rfl rfl (take_ofW HT_.out HW_.out (by kernel_rfl)) (fun _ _ _ h => h) (Or.inl ⟨by rfl, ?_⟩) hHeld ?_ ?_
   rotate_left
   ·rintro w' ⟨s0, s1, s2, s3, s4⟩
    go_simp
    with_reducible rfl
   rotate_left
   ·simp only [Act.put, List.setIfInBounds_toArray, List.set_cons_zero, List.set_cons_succ, zv, zx]
    rfl
   refine one_ (i := 3) (N := some 10) #[true, true, true, true, true, true, false, true, true, false, true, true, false, false] rfl rfl (one_of HT_.out (by kernel_rfl)) (by decide) (fun K hK => ?_)
   refine goes_ Try.func76 (by kernel_rfl) rfl #[.slice Ao15 t106.length co15, .int .i64 1, .int .i64 a0_1] (by rfl) rfl rfl (by (try simp only [List.map_toArray, List.map_cons, List.map_nil]); first | done | rfl | (simp only [List.length_drop, List.length_take]; rfl)) ?_
   with_reducible refine (impl_big.calls k (fun k_ => some k_ = (.slice Ao15 t106.length co15 : Value).ownBlock) (.slice Ao15 t106.length co15) t106 1 a0_1 t109 w _ ?side1 ?side2 A3.out).mono ?_
   (case side1 => repeat (first | (with_reducible first | exact HB.out | apply zg | apply zd | apply zh | refine zj ?_ zE.out) | exact HB.out))
   (case side2 => exact Kd.R_tight rfl zD.out)
   rintro e w16 ⟨v110, rfl, zC, hb, hkp⟩
   refine ⟨_, rfl, ?_⟩
   have n0_ := Aside0.mk (blk_kept (by (with_reducible repeat (first | refine zf ?_ _ | refine zi ?_ | refine ze ?_ _)); exact zz.out) hkp (fun hs_ => (fun e_ => (Kd.R_ne zD.out zz.out (by decide)) e_) hs_)); have n999_ := Aside0.mk (blk_kept (by (with_reducible repeat (first | refine zf ?_ _ | refine zi ?_ | refine ze ?_ _)); exact zA.out) hkp (fun hs_ => (fun e_ => (Kd.R_ne zD.out zA.out (by decide)) e_) hs_))
   have n1_ := Aside0.mk (Kd.R_mono (ok' := fun k_ => True) zC (fun k_ hk_ => trivial))
   have n2_ := Aside0.mk (hb)
   clear zz; clear zA
   clear HB
   clear zD
   have zz := n0_; have zA := n999_; clear n999_
   have zF := n1_
   have HB := n2_
   clear n0_ n1_ n2_
   (try clear hb)
   (try clear hkp)
   (try clear zC)
   obtain ⟨Ao17, co17, eo17⟩ := Kd.R_slice zF.out
   (first | subst eo17 | (injection eo17 with f1_ f2_ f3_; have f4_ := f1_.symm; have f5_ := f3_.symm; clear f1_ f2_ f3_; subst f4_; subst f5_))
   refine hK.out _ _ ⟨(zc zz.out 0).trans rfl, (zc zz.out 1).trans rfl, (zc zz.out 2).trans rfl, (zc zz.out 3).trans rfl, (zc zz.out 4).trans rfl⟩ (fun hHeld => ?_)
   clear hK K
   refine norm_ (a' := ?_) ?_ ?_
   rotate_left
   ·show Act.put _ (some 10) _ = _
    simp only [Act.put, List.setIfInBounds_toArray, List.set_cons_zero, List.set_cons_succ, zv, zx]
    rfl
   refine one_ (i := 6) (N := some 13) #[true, true, true, true, true, true, true, true, true, false, true, true, false, false] rfl rfl (one_of HT_.out (by kernel_rfl)) (by decide) (fun K hK => ?_)
   refine goes_ Try.func76 (by kernel_rfl) rfl #[.slice Ao17 t109.length co17, .int .i64 4, .int .i64 a0_2] (by rfl) rfl rfl (by (try simp only [List.map_toArray, List.map_cons, List.map_nil]); first | done | rfl | (simp only [List.length_drop, List.length_take]; rfl)) ?_
   with_reducible refine (impl_big.calls k (fun k_ => some k_ = (.slice Ao17 t109.length co17 : Value).ownBlock) (.slice Ao17 t109.length co17) t109 4 a0_2 t112 w _ ?side1 ?side2 A4.out).mono ?_
   (case side1 => repeat (first | (with_reducible first | exact HB.out | apply zg | apply zd | apply zh | refine zj ?_ zE.out) | exact HB.out))
   (case side2 => exact Kd.R_tight rfl zF.out)
   rintro e w18 ⟨v113, rfl, zC, hb, hkp⟩
   refine ⟨_, rfl, ?_⟩
   have n0_ := Aside0.mk (blk_kept (by (with_reducible repeat (first | refine zf ?_ _ | refine zi ?_ | refine ze ?_ _)); exact zz.out) hkp (fun hs_ => (fun e_ => (Kd.R_ne zF.out zz.out (by decide)) e_) hs_)); have n999_ := Aside0.mk (blk_kept (by (with_reducible repeat (first | refine zf ?_ _ | refine zi ?_ | refine ze ?_ _)); exact zA.out) hkp (fun hs_ => (fun e_ => (Kd.R_ne zF.out zA.out (by decide)) e_) hs_))
   have n1_ := Aside0.mk (Kd.R_mono (ok' := fun k_ => True) zC (fun k_ hk_ => trivial))
   have n2_ := Aside0.mk (hb)
   clear zz; clear zA
   clear HB
   clear zF
   have zz := n0_; have zA := n999_; clear n999_
   have zG := n1_
   have HB := n2_
   clear n0_ n1_ n2_
   (try clear hb)
   (try clear hkp)
   (try clear zC)
   obtain ⟨Ao19, co19, eo19⟩ := Kd.R_slice zG.out
   (first | subst eo19 | (injection eo19 with f1_ f2_ f3_; have f4_ := f1_.symm; have f5_ := f3_.symm; clear f1_ f2_ f3_; subst f4_; subst f5_))
   refine hK.out _ _ ⟨(zc zz.out 0).trans rfl, (zc zz.out 1).trans rfl, (zc zz.out 2).trans rfl, (zc zz.out 3).trans rfl, (zc zz.out 4).trans rfl⟩ (fun hHeld => ?_)
   clear hK K
   refine norm_ (a' := ?_) ?_ ?_
   rotate_left
   ·show Act.put _ (some 13) _ = _
    simp only [Act.put, List.setIfInBounds_toArray, List.set_cons_zero, List.set_cons_succ, zv, zx]
    rfl
   refine one_ (i := 9) (N := some 16) #[true, true, true, true, true, true, true, true, true, true, true, true, false, false] rfl rfl (one_of HT_.out (by kernel_rfl)) (by decide) (fun K hK => ?_)
   refine goes_ Try.func76 (by kernel_rfl) rfl #[.slice Ao19 t112.length co19, .int .i64 4, .int .i64 a0_3] (by rfl) rfl rfl (by (try simp only [List.map_toArray, List.map_cons, List.map_nil]); first | done | rfl | (simp only [List.length_drop, List.length_take]; rfl)) ?_
   with_reducible refine (impl_big.calls k (fun k_ => some k_ = (.slice Ao19 t112.length co19 : Value).ownBlock) (.slice Ao19 t112.length co19) t112 4 a0_3 t115 w _ ?side1 ?side2 A5.out).mono ?_
   (case side1 => repeat (first | (with_reducible first | exact HB.out | apply zg | apply zd | apply zh | refine zj ?_ zE.out) | exact HB.out))
   (case side2 => exact Kd.R_tight rfl zG.out)
   rintro e w20 ⟨v116, rfl, zC, hb, hkp⟩
   refine ⟨_, rfl, ?_⟩
   have n0_ := Aside0.mk (blk_kept (by (with_reducible repeat (first | refine zf ?_ _ | refine zi ?_ | refine ze ?_ _)); exact zz.out) hkp (fun hs_ => (fun e_ => (Kd.R_ne zG.out zz.out (by decide)) e_) hs_)); have n999_ := Aside0.mk (blk_kept (by (with_reducible repeat (first | refine zf ?_ _ | refine zi ?_ | refine ze ?_ _)); exact zA.out) hkp (fun hs_ => (fun e_ => (Kd.R_ne zG.out zA.out (by decide)) e_) hs_))
   have n1_ := Aside0.mk (Kd.R_mono (ok' := fun k_ => True) zC (fun k_ hk_ => trivial))
   have n2_ := Aside0.mk (hb)
   clear zz; clear zA
   clear HB
   clear zG
   have zz := n0_; have zA := n999_; clear n999_
   have zH := n1_
   have HB := n2_
   clear n0_ n1_ n2_
   (try clear hb)
   (try clear hkp)
   (try clear zC)
   obtain ⟨Ao21, co21, eo21⟩ := Kd.R_slice zH.out
   (first | subst eo21 | (injection eo21 with f1_ f2_ f3_; have f4_ := f1_.symm; have f5_ := f3_.symm; clear f1_ f2_ f3_; subst f4_; subst f5_))
   refine hK.out _ _ ⟨(zc zz.out 0).trans rfl, (zc zz.out 1).trans rfl, (zc zz.out 2).trans rfl, (zc zz.out 3).trans rfl, (zc zz.out 4).trans rfl⟩ (fun hHeld => ?_)
   clear hK K
   refine norm_ (a' := ?_) ?_ ?_
   rotate_left
   ·show Act.put _ (some 16) _ = _
    simp only [Act.put, List.setIfInBounds_toArray, List.set_cons_zero, List.set_cons_succ, zv, zx]
    rfl
   refine one_ (i := 12) (N := some 19) #[true, true, true, true, true, true, true, true, true, true, true, true, true, false] rfl rfl (one_of HT_.out (by kernel_rfl)) (by decide) (fun K hK => ?_)
   refine goes_ Try.func76 (by kernel_rfl) rfl #[.slice Ao21 t115.length co21, .int .i64 4, .int .i64 a0_4] (by rfl) rfl rfl (by (try simp only [List.map_toArray, List.map_cons, List.map_nil]); first | done | rfl | (simp only [List.length_drop, List.length_take]; rfl)) ?_
   with_reducible refine (impl_big.calls k (fun k_ => some k_ = (.slice Ao21 t115.length co21 : Value).ownBlock) (.slice Ao21 t115.length co21) t115 4 a0_4 t118 w _ ?side1 ?side2 A6.out).mono ?_
   (case side1 => repeat (first | (with_reducible first | exact HB.out | apply zg | apply zd | apply zh | refine zj ?_ zE.out) | exact HB.out))
   (case side2 => exact Kd.R_tight rfl zH.out)
   rintro e w22 ⟨v119, rfl, zC, hb, hkp⟩
   refine ⟨_, rfl, ?_⟩
   have n0_ := Aside0.mk (blk_kept (by (with_reducible repeat (first | refine zf ?_ _ | refine zi ?_ | refine ze ?_ _)); exact zz.out) hkp (fun hs_ => (fun e_ => (Kd.R_ne zH.out zz.out (by decide)) e_) hs_)); have n999_ := Aside0.mk (blk_kept (by (with_reducible repeat (first | refine zf ?_ _ | refine zi ?_ | refine ze ?_ _)); exact zA.out) hkp (fun hs_ => (fun e_ => (Kd.R_ne zH.out zA.out (by decide)) e_) hs_))
   have n1_ := Aside0.mk (Kd.R_mono (ok' := fun k_ => True) zC (fun k_ hk_ => trivial))
   have n2_ := Aside0.mk (hb)
   clear zz; clear zA
   clear HB
   clear zH
   have zz := n0_; have zA := n999_; clear n999_
   have zI := n1_
   have HB := n2_
   clear n0_ n1_ n2_
   (try clear hb)
   (try clear hkp)
   (try clear zC)
   refine hK.out _ _ ⟨(zc zz.out 0).trans rfl, (zc zz.out 1).trans rfl, (zc zz.out 2).trans rfl, (zc zz.out 3).trans rfl, (zc zz.out 4).trans rfl⟩ (fun hHeld => ?_)
   clear hK K
   refine norm_ (a' := ?_) ?_ ?_
   rotate_left
   ·show Act.put _ (some 19) _ = _
    simp only [Act.put, List.setIfInBounds_toArray, List.set_cons_zero, List.set_cons_succ, zv, zx]
    rfl
   refine pure_ (i := 13) (N := some 3) (v := ?_) (a' := ?_) #[true, true, true, true, true, true, true, true, true, true, true, true, true, true] rfl rfl (any_of HT_.out (by kernel_rfl)) (fun _ _ _ h => h) (Or.inl ⟨by rfl, ?_⟩) ?_ ?_
   rotate_left
   ·intro w'
    go_simp
    with_reducible rfl
   rotate_left
   ·simp only [Act.put, List.setIfInBounds_toArray, List.set_cons_zero, List.set_cons_succ, zv, zx]
    rfl
   refine done_ (done_of HT_.out (by kernel_rfl)) ?_
   obtain ⟨Ao23, co23, eo23⟩ := Kd.R_slice zI.out
   subst eo23
   try go_wp2_with (first | (at_builtin; refine Kd.R_append_zeros (Kd.int .u8) (w0 := w) w.heap.size rfl (.tmp 20) (.tmp 23) 22 3 5 (.int .u8 0) 1 rfl Try.underlying22 Try.underlying3 info5 rfl (by decide) (by omega) (.slice Ao23 t118.length co23) t118 0 (ji7 : Int) (fun _ => True) rfl rfl rfl ?aF ?aO (of_decide_eq_true (by first | (with_reducible assumption) | assumption)) ?aB ?aS ?aL ?_; (case aB => exact (by repeat (first | (with_reducible first | exact HB.out | apply zg | apply zd | apply zh | refine zj ?_ zE.out) | exact HB.out))); (case aF => exact (fun _ _ => trivial)); (case aO => exact (by (with_reducible repeat (first | apply Kd.R_alloc | apply Kd.R_drewN | apply Kd.R_drew)); exact zI.out)); (case aS => exact (zk (by repeat (first | (with_reducible first | exact HB.out | apply zg | apply zd | apply zh | refine zj ?_ zE.out) | exact HB.out)))); (case aL => have := LMc9.out; omega); intro v122 w24 ho hb hg hat; rw [← Ny121.out] at ho; have n0_ := Aside0.mk (blk_grown (g := zB) (o := .cells #[.int .i64 a0_0, .int .i64 a0_1, .int .i64 a0_2, .int .i64 a0_3, .int .i64 a0_4] 52 (0, 0)) (by (with_reducible repeat (first | refine zf ?_ _ | refine zi ?_ | refine ze ?_ _)); exact zz.out) hg (Kd.R_ne zI.out zz.out (by decide))); have n999_ := Aside0.mk (blk_grown (g := zK) (o := .cells (Array.replicate 64 (.int .u8 0)) 76 (0, 0)) (by (with_reducible repeat (first | refine zf ?_ _ | refine zi ?_ | refine ze ?_ _)); exact zA.out) hg (Kd.R_ne zI.out zA.out (by decide))); have n1_ := Aside0.mk (hb); have n2_ := Aside0.mk (ho); clear zz; clear zA; clear HB; clear zI; have zz := n0_; have zA := n999_; clear n999_; have HB := n1_; have zJ := n2_; clear n0_ n1_ n2_; clear ho hb hg hat; have zhb : w24.cell? ⟨zB, 0, none⟩ = some (.int .i64 a0_0) := (zc zz.out 0).trans rfl; have zib : w24.cell? ⟨zB, 1, none⟩ = some (.int .i64 a0_1) := (zc zz.out 1).trans rfl; have zjb : w24.cell? ⟨zB, 2, none⟩ = some (.int .i64 a0_2) := (zc zz.out 2).trans rfl; have zkb : w24.cell? ⟨zB, 3, none⟩ = some (.int .i64 a0_3) := (zc zz.out 3).trans rfl; have zlb : w24.cell? ⟨zB, 4, none⟩ = some (.int .i64 a0_4) := (zc zz.out 4).trans rfl; have zmb := zb zz.out 0; have znb := zb zz.out 1; have zob := zb zz.out 2; have zpb := zb zz.out 3; have zqb := zb zz.out 4; obtain ⟨Ao26, co26, eo26⟩ := Kd.R_slice zJ.out; subst eo26) | ((with_reducible refine zo (f := 76) rfl ?_); refine goesL_ (some 28) rfl rfl Try.func76 (by kernel_rfl) rfl #[.slice Ao26 y121.length co26, .int .i64 8, .int .i64 a0_0] rfl (by (try simp only [List.map_toArray, List.map_cons, List.map_nil]); first | done | rfl | (simp only [List.length_drop, List.length_take]; rfl)) ?_; (with_reducible refine (impl_big.calls k (fun k_ => some k_ = (.slice Ao26 y121.length co26 : Value).ownBlock) (.slice Ao26 y121.length co26) y121 8 a0_0 t124 w _ ?side1 ?side2 A10.out).mono ?_); (case side1 => repeat (first | (with_reducible first | exact HB.out | apply zg | apply zd | apply zh | refine zj ?_ zE.out) | exact HB.out)); (case side2 => exact Kd.R_tight rfl zJ.out); rintro e w27 ⟨v125, rfl, zC, hb, hkp⟩; refine ⟨_, rfl, ?_⟩; have n0_ := Aside0.mk (blk_kept (by (with_reducible repeat (first | refine zf ?_ _ | refine zi ?_ | refine ze ?_ _)); exact zz.out) hkp (fun hs_ => (fun e_ => (Kd.R_ne zJ.out zz.out (by decide)) e_) hs_)); have n999_ := Aside0.mk (blk_kept (by (with_reducible repeat (first | refine zf ?_ _ | refine zi ?_ | refine ze ?_ _)); exact zA.out) hkp (fun hs_ => (fun e_ => (Kd.R_ne zJ.out zA.out (by decide)) e_) hs_)); have n1_ := Aside0.mk (Kd.R_mono (ok' := fun k_ => True) zC (fun k_ hk_ => trivial)); have n2_ := Aside0.mk (hb); clear zz; clear zA; clear HB; clear zJ; have zz := n0_; have zA := n999_; clear n999_; have zL := n1_; have HB := n2_; clear n0_ n1_ n2_; (try clear hb); (try clear hkp); (try clear zC); obtain ⟨g997, c997, e997, _, _, _, _⟩ := Kd.R_form zL.out (by rw [HLEN.out]; omega); subst e997) | (refine Go.Proofs.YtejecjjimggjeaaH.to_arr rfl (t := 76) (e := 5) (n := 64) rfl (N := 29) rfl rfl Try.underlying76 (by rw [HLEN.out]; omega) ?_) | (refine Go.Proofs.YtejecjjimggjeaaH.load_arr (Value.int .u8) rfl (t := 76) (e := 5) (n := 64) rfl (N := 30) rfl rfl Try.underlying76 (by kernel_rfl) (by omega) HLEN.out.symm (Kd.R_reads' zL.out).2.2 ?_) | (refine Go.Proofs.YtejecjjimggjeaaH.store_arr rfl (t := 76) rfl rfl rfl rfl zA.out (by simp only [List.size_toArray, List.length_map, HLEN.out]; kernel_rfl) (by simp [HLEN.out]) (by apply all_oneCell_toArray; intro v_ hv_; obtain ⟨x_, _, rfl⟩ := List.mem_map.mp hv_; rfl) ?_; intro w996 hA996 hg996))
   refine bodyPost_ret (results_cell_row rfl _ _ zK 76 _ (0, 0) _ rfl hA996 Try.underlying76 rfl (by simp only [List.size_toArray, List.length_map, HLEN.out]; kernel_rfl)) rfl ?_
   exact ⟨rfl, pw_below_grown HB.out (some zK) HB.out.size hg996 (fun k_ hk_ => by injection hk_ with hk_; exact hk_ ▸ zM.out)⟩
  ·rw [if_neg c9] at H
   exact absurd H (by simp)
 ·rw [if_neg c8] at H
  exact absurd H (by simp)

end Go.Proofs.Ytejecjjimggjeaa.GFnTornSuper
