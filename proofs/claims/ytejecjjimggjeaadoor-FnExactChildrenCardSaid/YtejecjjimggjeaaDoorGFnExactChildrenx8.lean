/- Written by give.py, a program of this session, that runs the kit's print and lays contracts proved by hand beside it. -/
import Derived.Test.YtejecjjimggjeaaDoorGFnExactChildrenx0
namespace Go.Proofs.YtejecjjimggjeaaDoor.GFnExactChildren
open Go.RowKit Go.Proofs.YtejecjjimggjeaaDoorW.PrintWords Go.Proofs.YtejecjjimggjeaaDoorW.PrintLast Go.Proofs.YtejecjjimggjeaaDoorW.PrintMore
attribute [local go_sem] max2_int min2_int max_two min_two max_three min_three max_four min_four
attribute [local go_sem high] Go.Proofs.YtejecjjimggjeaaDoorH.str_leq Go.Proofs.YtejecjjimggjeaaDoorH.str_geq Go.Proofs.YtejecjjimggjeaaDoorH.str_gtr   -- for this text's walks alone
set_option linter.unusedVariables false
set_option linter.unusedSimpArgs false

def laws_eqStringS.l0 : Nat → List ByteArray → List ByteArray → Int → Option (Bool)
 | 0, _, _, _ => none
 | k + 1, x0, x1, x5 => if x5 < (x0.length : Int) then (if 0 ≤ x5 then (if x5 < (x1.length : Int) then (if (rdOf ByteArray.empty x0 x5).toList = (rdOf ByteArray.empty x1 x5).toList then (laws_eqStringS.l0 k x0 x1 (wrap64 (x5 + 1))) else (some false)) else (none)) else (none)) else (some true)
def laws_eqStringS.f (k : Nat) (l0 : List ByteArray) (l1 : List ByteArray) : Option (Bool) := if (l0.length : Int) = (l1.length : Int) then (laws_eqStringS.l0 k l0 l1 0) else (some false)
theorem laws_eqStringS.mono_l : ∀ k, (∀ y0 y1 y2, LeO (laws_eqStringS.l0 k y0 y1 y2) (laws_eqStringS.l0 (k + 1) y0 y1 y2))
 | 0 => fun _ _ _ r h => by simp [laws_eqStringS.l0] at h
 | k + 1 => by
  have ih0 := laws_eqStringS.mono_l k
  ·intro y0 y1 y2
   unfold laws_eqStringS.l0
   repeat' first
   | (with_reducible exact ih0 _ _ _)
   | (with_reducible exact LeO.refl _)
   | (with_reducible exact LeO.none _)
   | (with_reducible refine LeO.ite ?_ ?_)
   | (with_reducible refine LeO.bind ?_ (fun _ => ?_))
   | exact ih0 _ _ _
   | exact LeO.none _
   | refine LeO.ite ?_ ?_
   | refine LeO.bind ?_ (fun _ => ?_)
theorem laws_eqStringS.mono : ∀ a0 a1 k, LeO (laws_eqStringS.f k a0 a1) (laws_eqStringS.f (k + 1) a0 a1) := by
 intro a0 a1 k
 have ih0 := laws_eqStringS.mono_l k
 unfold laws_eqStringS.f
 repeat' first
   | (with_reducible exact ih0 _ _ _)
   | (with_reducible exact LeO.refl _)
   | (with_reducible exact LeO.none _)
   | (with_reducible refine LeO.ite ?_ ?_)
   | (with_reducible refine LeO.bind ?_ (fun _ => ?_))
   | exact ih0 _ _ _
   | exact LeO.none _
   | refine LeO.ite ?_ ?_
   | refine LeO.bind ?_ (fun _ => ?_)
set_option maxHeartbeats 8000000 in
set_option maxRecDepth 100000 in
theorem laws_eqStringS.calls (k : Nat) (A0 : Option Addr) (c0 : Nat) (l0 : List ByteArray) (A1 : Option Addr) (c1 : Nat) (l1 : List ByteArray) (r : Bool) (w : World) (hr0 : Kd.C Kd.string w A0 l0.length l0) (hc0 : l0.length ≤ c0) (hr1 : Kd.C Kd.string w A1 l1.length l1) (hc1 : l1.length ≤ c1) (h : laws_eqStringS.f k l0 l1 = some r) :
  Calls Tryd.prog 21 #[.slice A0 l0.length c0, .slice A1 l1.length c1] w fun e w' => e = .returned (.bool r) ∧ Drawn0 w w' := by
 have HR0 := Aside0.mk hr0
 have HC0 := Aside0.mk hc0
 clear hr0 hc0
 have HR1 := Aside0.mk hr1
 have HC1 := Aside0.mk hc1
 clear hr1 hc1
 have H : (if (l0.length : Int) = (l1.length : Int) then (laws_eqStringS.l0 k l0 l1 0) else (some false)) = some r := h
 clear h
 by_cases c3 : (l0.length : Int) = (l1.length : Int)
 ·rw [if_pos c3] at H
  have c3b0 : ((l0.length : Int) == (l1.length : Int)) = true := beq_iff_eq.mpr c3
  have c3b1 : ((l0.length : Int) != (l1.length : Int)) = false := bne_eq_false_iff_eq.mpr c3
  have c3b2 : (l0.length == l1.length) = true := by first | simpa using c3 | (simp at c3 ⊢; omega)
  clear c3
  have H' := Aside0.mk H
  clear H
  go_enter Tryd.func21, Tryd.ntmps21
  go_wp2
  repeat (go_quiet (fail); try go_wp2)
  go_loopg [5] k (fun kq v5 w' => ∃ (x5_1 : Int), v5 = .int .i64 x5_1 ∧ Aside0 (laws_eqStringS.l0 kq l0 l1 x5_1 = some r) ∧ Aside0 (kq ≤ k) ∧ Drawn0 w w')
  case atStart => exact ⟨(0), (by first | rfl | (simp; done) | (simp [*]; done)), H', ⟨Nat.le_refl _⟩, by repeat (first | exact Drawn0.refl _ | apply Drawn0.step)⟩
  case round =>
   clear H'
   try clear c1
   try clear c2
   try clear p2
   try clear c3
   try clear c3b0
   try clear c3b1
   try clear c3b2
   obtain ⟨x5_1, rfl, HA, HK1, ⟨m1, rfl⟩⟩ := hrel
   cases gk with
   | zero => exact absurd HA.out (by simp [laws_eqStringS.l0])
   | succ k1 =>
    have H := HA.out
    clear HA
    simp only [laws_eqStringS.l0] at H
    by_cases c4 : x5_1 < (l0.length : Int)
    ·rw [if_pos c4] at H
     have c4b0 : decide (x5_1 < (l0.length : Int)) = true := decide_eq_true c4
     clear c4
     by_cases c5 : 0 ≤ x5_1
     ·rw [if_pos c5] at H
      have c5b0 : decide (0 ≤ x5_1) = true := decide_eq_true c5
      clear c5
      by_cases c6 : x5_1 < (l1.length : Int)
      ·rw [if_pos c6] at H
       have c6b0 : decide (x5_1 < (l1.length : Int)) = true := decide_eq_true c6
       clear c6
       by_cases c7 : (rdOf ByteArray.empty l0 x5_1).toList = (rdOf ByteArray.empty l1 x5_1).toList
       ·rw [if_pos c7] at H
        have c7b0 : ((rdOf ByteArray.empty l0 x5_1).toList == (rdOf ByteArray.empty l1 x5_1).toList) = true := beq_iff_eq.mpr c7
        have c7b1 : ((rdOf ByteArray.empty l0 x5_1).toList != (rdOf ByteArray.empty l1 x5_1).toList) = false := bne_eq_false_iff_eq.mpr c7
        clear c7
        have H' := Aside0.mk H
        clear H
        have p222 : 0 ≤ (x5_1 : Int) := of_decide_eq_true (by first | (with_reducible assumption) | assumption)
        have q222 : x5_1 < (l0.length : Int) := of_decide_eq_true (by first | (with_reducible assumption) | assumption)
        obtain ⟨ad222, e222, hx222_0⟩ := Kd.at_string HR0.out x5_1 p222 q222
        cases e222
        replace p222 := eq_true p222
        replace q222 := eq_true q222
        have p223 : 0 ≤ (x5_1 : Int) := of_decide_eq_true (by first | (with_reducible assumption) | assumption)
        have q223 : x5_1 < (l1.length : Int) := of_decide_eq_true (by first | (with_reducible assumption) | assumption)
        obtain ⟨ad223, e223, hx223_0⟩ := Kd.at_string HR1.out x5_1 p223 q223
        cases e223
        replace p223 := eq_true p223
        replace q223 := eq_true q223
        go_wp2
        repeat (go_quiet (fail); try go_wp2)
        go_roundg k1
        case measure => have := HK1.out; omega
        case rel => exact ⟨(wrap64 (x5_1 + 1)), (by first | rfl | (simp; done) | (simp [*]; done)), H', ⟨by have := HK1.out; omega⟩, by repeat (first | exact Drawn0.refl _ | apply Drawn0.step)⟩
       ·rw [if_neg c7] at H
        have c7b0 : ((rdOf ByteArray.empty l0 x5_1).toList == (rdOf ByteArray.empty l1 x5_1).toList) = false := beq_eq_false_iff_ne.mpr c7
        have c7b1 : ((rdOf ByteArray.empty l0 x5_1).toList != (rdOf ByteArray.empty l1 x5_1).toList) = true := bne_iff_ne.mpr c7
        obtain rfl := Option.some.inj H
        have p222 : 0 ≤ (x5_1 : Int) := of_decide_eq_true (by first | (with_reducible assumption) | assumption)
        have q222 : x5_1 < (l0.length : Int) := of_decide_eq_true (by first | (with_reducible assumption) | assumption)
        obtain ⟨ad222, e222, hx222_0⟩ := Kd.at_string HR0.out x5_1 p222 q222
        cases e222
        replace p222 := eq_true p222
        replace q222 := eq_true q222
        have p223 : 0 ≤ (x5_1 : Int) := of_decide_eq_true (by first | (with_reducible assumption) | assumption)
        have q223 : x5_1 < (l1.length : Int) := of_decide_eq_true (by first | (with_reducible assumption) | assumption)
        obtain ⟨ad223, e223, hx223_0⟩ := Kd.at_string HR1.out x5_1 p223 q223
        cases e223
        replace p223 := eq_true p223
        replace q223 := eq_true q223
        go_wp2
        repeat (go_quiet (fail); try go_wp2)
        go_ret
        exact ⟨by first | rfl | (simp; done) | (simp [*]; done), by repeat (first | exact Drawn0.refl _ | apply Drawn0.step)⟩
      ·rw [if_neg c6] at H
       exact absurd H (by simp)
     ·rw [if_neg c5] at H
      exact absurd H (by simp)
    ·rw [if_neg c4] at H
     have c4b0 : decide (x5_1 < (l0.length : Int)) = false := decide_eq_false c4
     clear c4
     obtain rfl := Option.some.inj H
     go_wp2
     repeat (go_quiet (fail); try go_wp2)
     go_ret
     exact ⟨by first | rfl | (simp; done) | (simp [*]; done), by repeat (first | exact Drawn0.refl _ | apply Drawn0.step)⟩
 ·rw [if_neg c3] at H
  have c3b0 : ((l0.length : Int) == (l1.length : Int)) = false := beq_eq_false_iff_ne.mpr c3
  have c3b1 : ((l0.length : Int) != (l1.length : Int)) = true := bne_iff_ne.mpr c3
  have c3b2 : (l0.length == l1.length) = false := by first | simpa using c3 | (simp at c3 ⊢; omega)
  obtain rfl := Option.some.inj H
  go_enter Tryd.func21, Tryd.ntmps21
  go_wp2
  repeat (go_quiet (fail); try go_wp2)
  go_ret
  exact ⟨by first | rfl | (simp; done) | (simp [*]; done), by repeat (first | exact Drawn0.refl _ | apply Drawn0.step)⟩

def laws_eqNode.f (a0_0 : ByteArray) (a0_1 : ByteArray) (a0_2 : Int) (a0_3 : Int) (a0_4 : Int) (a0_5 : Int) (a0_6 : Int) (a1_0 : ByteArray) (a1_1 : ByteArray) (a1_2 : Int) (a1_3 : Int) (a1_4 : Int) (a1_5 : Int) (a1_6 : Int) : Option (Bool) := if a0_0.toList = a1_0.toList then (if a0_1.toList = a1_1.toList then (if a0_2 = a1_2 then (if a0_3 = a1_3 then (if a0_4 = a1_4 then (if a0_5 = a1_5 then (if a0_6 = a1_6 then (some true) else (some false)) else (some false)) else (some false)) else (some false)) else (some false)) else (some false)) else (some false)
set_option maxHeartbeats 8000000 in
set_option maxRecDepth 100000 in
theorem laws_eqNode.calls (a0_0 : ByteArray) (a0_1 : ByteArray) (a0_2 : Int) (a0_3 : Int) (a0_4 : Int) (a0_5 : Int) (a0_6 : Int) (a1_0 : ByteArray) (a1_1 : ByteArray) (a1_2 : Int) (a1_3 : Int) (a1_4 : Int) (a1_5 : Int) (a1_6 : Int) (r : Bool) (w : World) (h : laws_eqNode.f a0_0 a0_1 a0_2 a0_3 a0_4 a0_5 a0_6 a1_0 a1_1 a1_2 a1_3 a1_4 a1_5 a1_6 = some r) :
  Calls Tryd.prog 74 #[.agg #[.string a0_0, .string a0_1, .int .i64 a0_2, .int .i64 a0_3, .int .i64 a0_4, .int .i64 a0_5, .int .i64 a0_6], .agg #[.string a1_0, .string a1_1, .int .i64 a1_2, .int .i64 a1_3, .int .i64 a1_4, .int .i64 a1_5, .int .i64 a1_6]] w fun e w' => e = .returned (.bool r) ∧ Below w.heap.size w w' := by
 have hu53 := Tryd.underlying53
 have HB := Aside0.mk (Below.refl w.heap.size w)
 have H : (if a0_0.toList = a1_0.toList then (if a0_1.toList = a1_1.toList then (if a0_2 = a1_2 then (if a0_3 = a1_3 then (if a0_4 = a1_4 then (if a0_5 = a1_5 then (if a0_6 = a1_6 then (some true) else (some false)) else (some false)) else (some false)) else (some false)) else (some false)) else (some false)) else (some false)) = some r := h
 clear h
 by_cases c3 : a0_0.toList = a1_0.toList
 ·rw [if_pos c3] at H
  have c3b0 : (a0_0.toList == a1_0.toList) = true := beq_iff_eq.mpr c3
  have c3b1 : (a0_0.toList != a1_0.toList) = false := bne_eq_false_iff_eq.mpr c3
  clear c3
  by_cases c4 : a0_1.toList = a1_1.toList
  ·rw [if_pos c4] at H
   have c4b0 : (a0_1.toList == a1_1.toList) = true := beq_iff_eq.mpr c4
   have c4b1 : (a0_1.toList != a1_1.toList) = false := bne_eq_false_iff_eq.mpr c4
   clear c4
   by_cases c5 : a0_2 = a1_2
   ·rw [if_pos c5] at H
    have c5b0 : (a0_2 == a1_2) = true := beq_iff_eq.mpr c5
    have c5b1 : (a0_2 != a1_2) = false := bne_eq_false_iff_eq.mpr c5
    clear c5
    by_cases c6 : a0_3 = a1_3
    ·rw [if_pos c6] at H
     have c6b0 : (a0_3 == a1_3) = true := beq_iff_eq.mpr c6
     have c6b1 : (a0_3 != a1_3) = false := bne_eq_false_iff_eq.mpr c6
     clear c6
     by_cases c7 : a0_4 = a1_4
     ·rw [if_pos c7] at H
      have c7b0 : (a0_4 == a1_4) = true := beq_iff_eq.mpr c7
      have c7b1 : (a0_4 != a1_4) = false := bne_eq_false_iff_eq.mpr c7
      clear c7
      by_cases c8 : a0_5 = a1_5
      ·rw [if_pos c8] at H
       have c8b0 : (a0_5 == a1_5) = true := beq_iff_eq.mpr c8
       have c8b1 : (a0_5 != a1_5) = false := bne_eq_false_iff_eq.mpr c8
       clear c8
       by_cases c9 : a0_6 = a1_6
       ·rw [if_pos c9] at H
        have c9b0 : (a0_6 == a1_6) = true := beq_iff_eq.mpr c9
        have c9b1 : (a0_6 != a1_6) = false := bne_eq_false_iff_eq.mpr c9
        clear c9
        obtain rfl := Option.some.inj H
        go_enter Tryd.func74, Tryd.ntmps74
        go_wp2_with (first | ((with_reducible refine zu (N := 2) rfl ?_); refine zs ?hg (N := 2) ?hd (cs := #[.string a0_0, .string a0_1, .int .i64 a0_2, .int .i64 a0_3, .int .i64 a0_4, .int .i64 a0_5, .int .i64 a0_6]) (t := 53) ?hr ?_; (case hd => rfl); (case hg => rfl); (case hr => first | (go_simp; done) | (go_simp; rfl)); intro zy hg w10 hbox hb; have n0_ := Aside0.mk (zi (by exact bl HB.out) hb); have n1_ := Aside0.mk (hbox); have n2_ := Aside0.mk ((by rw [hg]; exact (zh (by exact bl HB.out)) : w.heap.size ≤ zy)); have n3_ := Aside0.mk ((by rw [hg]; exact (zh (by exact bl HB.out)) : w.heap.size ≤ zy)); clear HB; have HB := n0_; have zx := n1_; have GW224 := n2_; have zD := n3_; clear n0_ n1_ n2_ n3_; clear hb hbox hg) | ((with_reducible refine zu (N := 3) rfl ?_); refine zs ?hg (N := 3) ?hd (cs := #[.string a1_0, .string a1_1, .int .i64 a1_2, .int .i64 a1_3, .int .i64 a1_4, .int .i64 a1_5, .int .i64 a1_6]) (t := 53) ?hr ?_; (case hd => rfl); (case hg => rfl); (case hr => first | (go_simp; done) | (go_simp; rfl)); intro zA hg w11 hbox hb; have n0_ := Aside0.mk (zm (g := zy) (o := .cells #[.string a0_0, .string a0_1, .int .i64 a0_2, .int .i64 a0_3, .int .i64 a0_4, .int .i64 a0_5, .int .i64 a0_6] 53 (0, 0)) (BL zx.out) hb); have n1_ := Aside0.mk (zi (by exact bl HB.out) hb); have n2_ := Aside0.mk (hbox); have n3_ := Aside0.mk ((by rw [hg]; exact (zh (by exact bl HB.out)) : w.heap.size ≤ zA)); have n4_ := Aside0.mk ((by rw [hg]; exact (zh (by exact bl HB.out)) : w.heap.size ≤ zA)); have n5_ := Aside0.mk ((by rw [hg]; exact Nat.ne_of_lt (blk_lt (g := zy) (o := .cells #[.string a0_0, .string a0_1, .int .i64 a0_2, .int .i64 a0_3, .int .i64 a0_4, .int .i64 a0_5, .int .i64 a0_6] 53 (0, 0)) (BL zx.out)) : zy ≠ zA)); have n6_ := Aside0.mk ((by rw [hg]; exact Nat.ne_of_gt (blk_lt (g := zy) (o := .cells #[.string a0_0, .string a0_1, .int .i64 a0_2, .int .i64 a0_3, .int .i64 a0_4, .int .i64 a0_5, .int .i64 a0_6] 53 (0, 0)) (BL zx.out)) : zA ≠ zy)); clear zx; clear HB; have zx := n0_; have HB := n1_; have zz := n2_; have GW225 := n3_; have zE := n4_; have zB := n5_; have zC := n6_; clear n0_ n1_ n2_ n3_ n4_ n5_ n6_; clear hb hbox hg; have zVe := zB.out; have zWe := zC.out; have zF : w11.cell? ⟨zy, 0, none⟩ = some (.string a0_0) := (ze zx.out 0).trans rfl; have zG : w11.cell? ⟨zy, 1, none⟩ = some (.string a0_1) := (ze zx.out 1).trans rfl; have zH : w11.cell? ⟨zy, 2, none⟩ = some (.int .i64 a0_2) := (ze zx.out 2).trans rfl; have zI : w11.cell? ⟨zy, 3, none⟩ = some (.int .i64 a0_3) := (ze zx.out 3).trans rfl; have zJ : w11.cell? ⟨zy, 4, none⟩ = some (.int .i64 a0_4) := (ze zx.out 4).trans rfl; have zK : w11.cell? ⟨zy, 5, none⟩ = some (.int .i64 a0_5) := (ze zx.out 5).trans rfl; have zL : w11.cell? ⟨zy, 6, none⟩ = some (.int .i64 a0_6) := (ze zx.out 6).trans rfl; have zM := zc zx.out 0; have zN := zc zx.out 1; have zO := zc zx.out 2; have zP := zc zx.out 3; have zQ := zc zx.out 4; have zR := zc zx.out 5; have zS := zc zx.out 6; have zT : w11.cell? ⟨zA, 0, none⟩ = some (.string a1_0) := (ze zz.out 0).trans rfl; have zU : w11.cell? ⟨zA, 1, none⟩ = some (.string a1_1) := (ze zz.out 1).trans rfl; have zV : w11.cell? ⟨zA, 2, none⟩ = some (.int .i64 a1_2) := (ze zz.out 2).trans rfl; have zW : w11.cell? ⟨zA, 3, none⟩ = some (.int .i64 a1_3) := (ze zz.out 3).trans rfl; have zX : w11.cell? ⟨zA, 4, none⟩ = some (.int .i64 a1_4) := (ze zz.out 4).trans rfl; have zY : w11.cell? ⟨zA, 5, none⟩ = some (.int .i64 a1_5) := (ze zz.out 5).trans rfl; have zZ : w11.cell? ⟨zA, 6, none⟩ = some (.int .i64 a1_6) := (ze zz.out 6).trans rfl; have zab := zc zz.out 0; have zbb := zc zz.out 1; have zcb := zc zz.out 2; have zdb := zc zz.out 3; have zeb := zc zz.out 4; have zfb := zc zz.out 5; have zgb := zc zz.out 6))
        go_ret
        exact ⟨by first | rfl | (simp [errW_none, errW_some] <;> rfl) | (simp [*, errW_none, errW_some] <;> rfl), by repeat (first | (with_reducible first | exact HB.out | apply zg | apply zd | apply zf | refine zj ?_ zD.out | refine zj ?_ zE.out) | exact HB.out)⟩
       ·rw [if_neg c9] at H
        have c9b0 : (a0_6 == a1_6) = false := beq_eq_false_iff_ne.mpr c9
        have c9b1 : (a0_6 != a1_6) = true := bne_iff_ne.mpr c9
        obtain rfl := Option.some.inj H
        go_enter Tryd.func74, Tryd.ntmps74
        go_wp2_with (first | ((with_reducible refine zu (N := 2) rfl ?_); refine zs ?hg (N := 2) ?hd (cs := #[.string a0_0, .string a0_1, .int .i64 a0_2, .int .i64 a0_3, .int .i64 a0_4, .int .i64 a0_5, .int .i64 a0_6]) (t := 53) ?hr ?_; (case hd => rfl); (case hg => rfl); (case hr => first | (go_simp; done) | (go_simp; rfl)); intro zy hg w15 hbox hb; have n0_ := Aside0.mk (zi (by exact bl HB.out) hb); have n1_ := Aside0.mk (hbox); have n2_ := Aside0.mk ((by rw [hg]; exact (zh (by exact bl HB.out)) : w.heap.size ≤ zy)); have n3_ := Aside0.mk ((by rw [hg]; exact (zh (by exact bl HB.out)) : w.heap.size ≤ zy)); clear HB; have HB := n0_; have zx := n1_; have GW224 := n2_; have zD := n3_; clear n0_ n1_ n2_ n3_; clear hb hbox hg) | ((with_reducible refine zu (N := 3) rfl ?_); refine zs ?hg (N := 3) ?hd (cs := #[.string a1_0, .string a1_1, .int .i64 a1_2, .int .i64 a1_3, .int .i64 a1_4, .int .i64 a1_5, .int .i64 a1_6]) (t := 53) ?hr ?_; (case hd => rfl); (case hg => rfl); (case hr => first | (go_simp; done) | (go_simp; rfl)); intro zA hg w16 hbox hb; have n0_ := Aside0.mk (zm (g := zy) (o := .cells #[.string a0_0, .string a0_1, .int .i64 a0_2, .int .i64 a0_3, .int .i64 a0_4, .int .i64 a0_5, .int .i64 a0_6] 53 (0, 0)) (BL zx.out) hb); have n1_ := Aside0.mk (zi (by exact bl HB.out) hb); have n2_ := Aside0.mk (hbox); have n3_ := Aside0.mk ((by rw [hg]; exact (zh (by exact bl HB.out)) : w.heap.size ≤ zA)); have n4_ := Aside0.mk ((by rw [hg]; exact (zh (by exact bl HB.out)) : w.heap.size ≤ zA)); have n5_ := Aside0.mk ((by rw [hg]; exact Nat.ne_of_lt (blk_lt (g := zy) (o := .cells #[.string a0_0, .string a0_1, .int .i64 a0_2, .int .i64 a0_3, .int .i64 a0_4, .int .i64 a0_5, .int .i64 a0_6] 53 (0, 0)) (BL zx.out)) : zy ≠ zA)); have n6_ := Aside0.mk ((by rw [hg]; exact Nat.ne_of_gt (blk_lt (g := zy) (o := .cells #[.string a0_0, .string a0_1, .int .i64 a0_2, .int .i64 a0_3, .int .i64 a0_4, .int .i64 a0_5, .int .i64 a0_6] 53 (0, 0)) (BL zx.out)) : zA ≠ zy)); clear zx; clear HB; have zx := n0_; have HB := n1_; have zz := n2_; have GW225 := n3_; have zE := n4_; have zB := n5_; have zC := n6_; clear n0_ n1_ n2_ n3_ n4_ n5_ n6_; clear hb hbox hg; have zXe := zB.out; have zYe := zC.out; have zhb : w16.cell? ⟨zy, 0, none⟩ = some (.string a0_0) := (ze zx.out 0).trans rfl; have zib : w16.cell? ⟨zy, 1, none⟩ = some (.string a0_1) := (ze zx.out 1).trans rfl; have zjb : w16.cell? ⟨zy, 2, none⟩ = some (.int .i64 a0_2) := (ze zx.out 2).trans rfl; have zkb : w16.cell? ⟨zy, 3, none⟩ = some (.int .i64 a0_3) := (ze zx.out 3).trans rfl; have zlb : w16.cell? ⟨zy, 4, none⟩ = some (.int .i64 a0_4) := (ze zx.out 4).trans rfl; have zmb : w16.cell? ⟨zy, 5, none⟩ = some (.int .i64 a0_5) := (ze zx.out 5).trans rfl; have znb : w16.cell? ⟨zy, 6, none⟩ = some (.int .i64 a0_6) := (ze zx.out 6).trans rfl; have zob := zc zx.out 0; have zpb := zc zx.out 1; have zqb := zc zx.out 2; have zrb := zc zx.out 3; have zsb := zc zx.out 4; have ztb := zc zx.out 5; have zub := zc zx.out 6; have zvb : w16.cell? ⟨zA, 0, none⟩ = some (.string a1_0) := (ze zz.out 0).trans rfl; have zwb : w16.cell? ⟨zA, 1, none⟩ = some (.string a1_1) := (ze zz.out 1).trans rfl; have zxb : w16.cell? ⟨zA, 2, none⟩ = some (.int .i64 a1_2) := (ze zz.out 2).trans rfl; have zyb : w16.cell? ⟨zA, 3, none⟩ = some (.int .i64 a1_3) := (ze zz.out 3).trans rfl; have zzb : w16.cell? ⟨zA, 4, none⟩ = some (.int .i64 a1_4) := (ze zz.out 4).trans rfl; have zAb : w16.cell? ⟨zA, 5, none⟩ = some (.int .i64 a1_5) := (ze zz.out 5).trans rfl; have zBb : w16.cell? ⟨zA, 6, none⟩ = some (.int .i64 a1_6) := (ze zz.out 6).trans rfl; have zCb := zc zz.out 0; have zDb := zc zz.out 1; have zEb := zc zz.out 2; have zFb := zc zz.out 3; have zGb := zc zz.out 4; have zHb := zc zz.out 5; have zIb := zc zz.out 6))
        go_ret
        exact ⟨by first | rfl | (simp [errW_none, errW_some] <;> rfl) | (simp [*, errW_none, errW_some] <;> rfl), by repeat (first | (with_reducible first | exact HB.out | apply zg | apply zd | apply zf | refine zj ?_ zD.out | refine zj ?_ zE.out) | exact HB.out)⟩
      ·rw [if_neg c8] at H
       have c8b0 : (a0_5 == a1_5) = false := beq_eq_false_iff_ne.mpr c8
       have c8b1 : (a0_5 != a1_5) = true := bne_iff_ne.mpr c8
       obtain rfl := Option.some.inj H
       go_enter Tryd.func74, Tryd.ntmps74
       go_wp2_with (first | ((with_reducible refine zu (N := 2) rfl ?_); refine zs ?hg (N := 2) ?hd (cs := #[.string a0_0, .string a0_1, .int .i64 a0_2, .int .i64 a0_3, .int .i64 a0_4, .int .i64 a0_5, .int .i64 a0_6]) (t := 53) ?hr ?_; (case hd => rfl); (case hg => rfl); (case hr => first | (go_simp; done) | (go_simp; rfl)); intro zy hg w20 hbox hb; have n0_ := Aside0.mk (zi (by exact bl HB.out) hb); have n1_ := Aside0.mk (hbox); have n2_ := Aside0.mk ((by rw [hg]; exact (zh (by exact bl HB.out)) : w.heap.size ≤ zy)); have n3_ := Aside0.mk ((by rw [hg]; exact (zh (by exact bl HB.out)) : w.heap.size ≤ zy)); clear HB; have HB := n0_; have zx := n1_; have GW224 := n2_; have zD := n3_; clear n0_ n1_ n2_ n3_; clear hb hbox hg) | ((with_reducible refine zu (N := 3) rfl ?_); refine zs ?hg (N := 3) ?hd (cs := #[.string a1_0, .string a1_1, .int .i64 a1_2, .int .i64 a1_3, .int .i64 a1_4, .int .i64 a1_5, .int .i64 a1_6]) (t := 53) ?hr ?_; (case hd => rfl); (case hg => rfl); (case hr => first | (go_simp; done) | (go_simp; rfl)); intro zA hg w21 hbox hb; have n0_ := Aside0.mk (zm (g := zy) (o := .cells #[.string a0_0, .string a0_1, .int .i64 a0_2, .int .i64 a0_3, .int .i64 a0_4, .int .i64 a0_5, .int .i64 a0_6] 53 (0, 0)) (BL zx.out) hb); have n1_ := Aside0.mk (zi (by exact bl HB.out) hb); have n2_ := Aside0.mk (hbox); have n3_ := Aside0.mk ((by rw [hg]; exact (zh (by exact bl HB.out)) : w.heap.size ≤ zA)); have n4_ := Aside0.mk ((by rw [hg]; exact (zh (by exact bl HB.out)) : w.heap.size ≤ zA)); have n5_ := Aside0.mk ((by rw [hg]; exact Nat.ne_of_lt (blk_lt (g := zy) (o := .cells #[.string a0_0, .string a0_1, .int .i64 a0_2, .int .i64 a0_3, .int .i64 a0_4, .int .i64 a0_5, .int .i64 a0_6] 53 (0, 0)) (BL zx.out)) : zy ≠ zA)); have n6_ := Aside0.mk ((by rw [hg]; exact Nat.ne_of_gt (blk_lt (g := zy) (o := .cells #[.string a0_0, .string a0_1, .int .i64 a0_2, .int .i64 a0_3, .int .i64 a0_4, .int .i64 a0_5, .int .i64 a0_6] 53 (0, 0)) (BL zx.out)) : zA ≠ zy)); clear zx; clear HB; have zx := n0_; have HB := n1_; have zz := n2_; have GW225 := n3_; have zE := n4_; have zB := n5_; have zC := n6_; clear n0_ n1_ n2_ n3_ n4_ n5_ n6_; clear hb hbox hg; have zZe := zB.out; have zaf := zC.out; have zJb : w21.cell? ⟨zy, 0, none⟩ = some (.string a0_0) := (ze zx.out 0).trans rfl; have zKb : w21.cell? ⟨zy, 1, none⟩ = some (.string a0_1) := (ze zx.out 1).trans rfl; have zLb : w21.cell? ⟨zy, 2, none⟩ = some (.int .i64 a0_2) := (ze zx.out 2).trans rfl; have zMb : w21.cell? ⟨zy, 3, none⟩ = some (.int .i64 a0_3) := (ze zx.out 3).trans rfl; have zNb : w21.cell? ⟨zy, 4, none⟩ = some (.int .i64 a0_4) := (ze zx.out 4).trans rfl; have zOb : w21.cell? ⟨zy, 5, none⟩ = some (.int .i64 a0_5) := (ze zx.out 5).trans rfl; have zPb : w21.cell? ⟨zy, 6, none⟩ = some (.int .i64 a0_6) := (ze zx.out 6).trans rfl; have zQb := zc zx.out 0; have zRb := zc zx.out 1; have zSb := zc zx.out 2; have zTb := zc zx.out 3; have zUb := zc zx.out 4; have zVb := zc zx.out 5; have zWb := zc zx.out 6; have zXb : w21.cell? ⟨zA, 0, none⟩ = some (.string a1_0) := (ze zz.out 0).trans rfl; have zYb : w21.cell? ⟨zA, 1, none⟩ = some (.string a1_1) := (ze zz.out 1).trans rfl; have zZb : w21.cell? ⟨zA, 2, none⟩ = some (.int .i64 a1_2) := (ze zz.out 2).trans rfl; have zac : w21.cell? ⟨zA, 3, none⟩ = some (.int .i64 a1_3) := (ze zz.out 3).trans rfl; have zbc : w21.cell? ⟨zA, 4, none⟩ = some (.int .i64 a1_4) := (ze zz.out 4).trans rfl; have zcc : w21.cell? ⟨zA, 5, none⟩ = some (.int .i64 a1_5) := (ze zz.out 5).trans rfl; have zdc : w21.cell? ⟨zA, 6, none⟩ = some (.int .i64 a1_6) := (ze zz.out 6).trans rfl; have zec := zc zz.out 0; have zfc := zc zz.out 1; have zgc := zc zz.out 2; have zhc := zc zz.out 3; have zic := zc zz.out 4; have zjc := zc zz.out 5; have zkc := zc zz.out 6))
       go_ret
       exact ⟨by first | rfl | (simp [errW_none, errW_some] <;> rfl) | (simp [*, errW_none, errW_some] <;> rfl), by repeat (first | (with_reducible first | exact HB.out | apply zg | apply zd | apply zf | refine zj ?_ zD.out | refine zj ?_ zE.out) | exact HB.out)⟩
     ·rw [if_neg c7] at H
      have c7b0 : (a0_4 == a1_4) = false := beq_eq_false_iff_ne.mpr c7
      have c7b1 : (a0_4 != a1_4) = true := bne_iff_ne.mpr c7
      obtain rfl := Option.some.inj H
      go_enter Tryd.func74, Tryd.ntmps74
      go_wp2_with (first | ((with_reducible refine zu (N := 2) rfl ?_); refine zs ?hg (N := 2) ?hd (cs := #[.string a0_0, .string a0_1, .int .i64 a0_2, .int .i64 a0_3, .int .i64 a0_4, .int .i64 a0_5, .int .i64 a0_6]) (t := 53) ?hr ?_; (case hd => rfl); (case hg => rfl); (case hr => first | (go_simp; done) | (go_simp; rfl)); intro zy hg w25 hbox hb; have n0_ := Aside0.mk (zi (by exact bl HB.out) hb); have n1_ := Aside0.mk (hbox); have n2_ := Aside0.mk ((by rw [hg]; exact (zh (by exact bl HB.out)) : w.heap.size ≤ zy)); have n3_ := Aside0.mk ((by rw [hg]; exact (zh (by exact bl HB.out)) : w.heap.size ≤ zy)); clear HB; have HB := n0_; have zx := n1_; have GW224 := n2_; have zD := n3_; clear n0_ n1_ n2_ n3_; clear hb hbox hg) | ((with_reducible refine zu (N := 3) rfl ?_); refine zs ?hg (N := 3) ?hd (cs := #[.string a1_0, .string a1_1, .int .i64 a1_2, .int .i64 a1_3, .int .i64 a1_4, .int .i64 a1_5, .int .i64 a1_6]) (t := 53) ?hr ?_; (case hd => rfl); (case hg => rfl); (case hr => first | (go_simp; done) | (go_simp; rfl)); intro zA hg w26 hbox hb; have n0_ := Aside0.mk (zm (g := zy) (o := .cells #[.string a0_0, .string a0_1, .int .i64 a0_2, .int .i64 a0_3, .int .i64 a0_4, .int .i64 a0_5, .int .i64 a0_6] 53 (0, 0)) (BL zx.out) hb); have n1_ := Aside0.mk (zi (by exact bl HB.out) hb); have n2_ := Aside0.mk (hbox); have n3_ := Aside0.mk ((by rw [hg]; exact (zh (by exact bl HB.out)) : w.heap.size ≤ zA)); have n4_ := Aside0.mk ((by rw [hg]; exact (zh (by exact bl HB.out)) : w.heap.size ≤ zA)); have n5_ := Aside0.mk ((by rw [hg]; exact Nat.ne_of_lt (blk_lt (g := zy) (o := .cells #[.string a0_0, .string a0_1, .int .i64 a0_2, .int .i64 a0_3, .int .i64 a0_4, .int .i64 a0_5, .int .i64 a0_6] 53 (0, 0)) (BL zx.out)) : zy ≠ zA)); have n6_ := Aside0.mk ((by rw [hg]; exact Nat.ne_of_gt (blk_lt (g := zy) (o := .cells #[.string a0_0, .string a0_1, .int .i64 a0_2, .int .i64 a0_3, .int .i64 a0_4, .int .i64 a0_5, .int .i64 a0_6] 53 (0, 0)) (BL zx.out)) : zA ≠ zy)); clear zx; clear HB; have zx := n0_; have HB := n1_; have zz := n2_; have GW225 := n3_; have zE := n4_; have zB := n5_; have zC := n6_; clear n0_ n1_ n2_ n3_ n4_ n5_ n6_; clear hb hbox hg; have zbf := zB.out; have zcf := zC.out; have zlc : w26.cell? ⟨zy, 0, none⟩ = some (.string a0_0) := (ze zx.out 0).trans rfl; have zmc : w26.cell? ⟨zy, 1, none⟩ = some (.string a0_1) := (ze zx.out 1).trans rfl; have znc : w26.cell? ⟨zy, 2, none⟩ = some (.int .i64 a0_2) := (ze zx.out 2).trans rfl; have zoc : w26.cell? ⟨zy, 3, none⟩ = some (.int .i64 a0_3) := (ze zx.out 3).trans rfl; have zpc : w26.cell? ⟨zy, 4, none⟩ = some (.int .i64 a0_4) := (ze zx.out 4).trans rfl; have zqc : w26.cell? ⟨zy, 5, none⟩ = some (.int .i64 a0_5) := (ze zx.out 5).trans rfl; have zrc : w26.cell? ⟨zy, 6, none⟩ = some (.int .i64 a0_6) := (ze zx.out 6).trans rfl; have zsc := zc zx.out 0; have ztc := zc zx.out 1; have zuc := zc zx.out 2; have zvc := zc zx.out 3; have zwc := zc zx.out 4; have zxc := zc zx.out 5; have zyc := zc zx.out 6; have zzc : w26.cell? ⟨zA, 0, none⟩ = some (.string a1_0) := (ze zz.out 0).trans rfl; have zAc : w26.cell? ⟨zA, 1, none⟩ = some (.string a1_1) := (ze zz.out 1).trans rfl; have zBc : w26.cell? ⟨zA, 2, none⟩ = some (.int .i64 a1_2) := (ze zz.out 2).trans rfl; have zCc : w26.cell? ⟨zA, 3, none⟩ = some (.int .i64 a1_3) := (ze zz.out 3).trans rfl; have zDc : w26.cell? ⟨zA, 4, none⟩ = some (.int .i64 a1_4) := (ze zz.out 4).trans rfl; have zEc : w26.cell? ⟨zA, 5, none⟩ = some (.int .i64 a1_5) := (ze zz.out 5).trans rfl; have zFc : w26.cell? ⟨zA, 6, none⟩ = some (.int .i64 a1_6) := (ze zz.out 6).trans rfl; have zGc := zc zz.out 0; have zHc := zc zz.out 1; have zIc := zc zz.out 2; have zJc := zc zz.out 3; have zKc := zc zz.out 4; have zLc := zc zz.out 5; have zMc := zc zz.out 6))
      go_ret
      exact ⟨by first | rfl | (simp [errW_none, errW_some] <;> rfl) | (simp [*, errW_none, errW_some] <;> rfl), by repeat (first | (with_reducible first | exact HB.out | apply zg | apply zd | apply zf | refine zj ?_ zD.out | refine zj ?_ zE.out) | exact HB.out)⟩
    ·rw [if_neg c6] at H
     have c6b0 : (a0_3 == a1_3) = false := beq_eq_false_iff_ne.mpr c6
     have c6b1 : (a0_3 != a1_3) = true := bne_iff_ne.mpr c6
     obtain rfl := Option.some.inj H
     go_enter Tryd.func74, Tryd.ntmps74
     go_wp2_with (first | ((with_reducible refine zu (N := 2) rfl ?_); refine zs ?hg (N := 2) ?hd (cs := #[.string a0_0, .string a0_1, .int .i64 a0_2, .int .i64 a0_3, .int .i64 a0_4, .int .i64 a0_5, .int .i64 a0_6]) (t := 53) ?hr ?_; (case hd => rfl); (case hg => rfl); (case hr => first | (go_simp; done) | (go_simp; rfl)); intro zy hg w30 hbox hb; have n0_ := Aside0.mk (zi (by exact bl HB.out) hb); have n1_ := Aside0.mk (hbox); have n2_ := Aside0.mk ((by rw [hg]; exact (zh (by exact bl HB.out)) : w.heap.size ≤ zy)); have n3_ := Aside0.mk ((by rw [hg]; exact (zh (by exact bl HB.out)) : w.heap.size ≤ zy)); clear HB; have HB := n0_; have zx := n1_; have GW224 := n2_; have zD := n3_; clear n0_ n1_ n2_ n3_; clear hb hbox hg) | ((with_reducible refine zu (N := 3) rfl ?_); refine zs ?hg (N := 3) ?hd (cs := #[.string a1_0, .string a1_1, .int .i64 a1_2, .int .i64 a1_3, .int .i64 a1_4, .int .i64 a1_5, .int .i64 a1_6]) (t := 53) ?hr ?_; (case hd => rfl); (case hg => rfl); (case hr => first | (go_simp; done) | (go_simp; rfl)); intro zA hg w31 hbox hb; have n0_ := Aside0.mk (zm (g := zy) (o := .cells #[.string a0_0, .string a0_1, .int .i64 a0_2, .int .i64 a0_3, .int .i64 a0_4, .int .i64 a0_5, .int .i64 a0_6] 53 (0, 0)) (BL zx.out) hb); have n1_ := Aside0.mk (zi (by exact bl HB.out) hb); have n2_ := Aside0.mk (hbox); have n3_ := Aside0.mk ((by rw [hg]; exact (zh (by exact bl HB.out)) : w.heap.size ≤ zA)); have n4_ := Aside0.mk ((by rw [hg]; exact (zh (by exact bl HB.out)) : w.heap.size ≤ zA)); have n5_ := Aside0.mk ((by rw [hg]; exact Nat.ne_of_lt (blk_lt (g := zy) (o := .cells #[.string a0_0, .string a0_1, .int .i64 a0_2, .int .i64 a0_3, .int .i64 a0_4, .int .i64 a0_5, .int .i64 a0_6] 53 (0, 0)) (BL zx.out)) : zy ≠ zA)); have n6_ := Aside0.mk ((by rw [hg]; exact Nat.ne_of_gt (blk_lt (g := zy) (o := .cells #[.string a0_0, .string a0_1, .int .i64 a0_2, .int .i64 a0_3, .int .i64 a0_4, .int .i64 a0_5, .int .i64 a0_6] 53 (0, 0)) (BL zx.out)) : zA ≠ zy)); clear zx; clear HB; have zx := n0_; have HB := n1_; have zz := n2_; have GW225 := n3_; have zE := n4_; have zB := n5_; have zC := n6_; clear n0_ n1_ n2_ n3_ n4_ n5_ n6_; clear hb hbox hg; have zdf := zB.out; have zef := zC.out; have zNc : w31.cell? ⟨zy, 0, none⟩ = some (.string a0_0) := (ze zx.out 0).trans rfl; have zOc : w31.cell? ⟨zy, 1, none⟩ = some (.string a0_1) := (ze zx.out 1).trans rfl; have zPc : w31.cell? ⟨zy, 2, none⟩ = some (.int .i64 a0_2) := (ze zx.out 2).trans rfl; have zQc : w31.cell? ⟨zy, 3, none⟩ = some (.int .i64 a0_3) := (ze zx.out 3).trans rfl; have zRc : w31.cell? ⟨zy, 4, none⟩ = some (.int .i64 a0_4) := (ze zx.out 4).trans rfl; have zSc : w31.cell? ⟨zy, 5, none⟩ = some (.int .i64 a0_5) := (ze zx.out 5).trans rfl; have zTc : w31.cell? ⟨zy, 6, none⟩ = some (.int .i64 a0_6) := (ze zx.out 6).trans rfl; have zUc := zc zx.out 0; have zVc := zc zx.out 1; have zWc := zc zx.out 2; have zXc := zc zx.out 3; have zYc := zc zx.out 4; have zZc := zc zx.out 5; have zad := zc zx.out 6; have zbd : w31.cell? ⟨zA, 0, none⟩ = some (.string a1_0) := (ze zz.out 0).trans rfl; have zcd : w31.cell? ⟨zA, 1, none⟩ = some (.string a1_1) := (ze zz.out 1).trans rfl; have zdd : w31.cell? ⟨zA, 2, none⟩ = some (.int .i64 a1_2) := (ze zz.out 2).trans rfl; have zed : w31.cell? ⟨zA, 3, none⟩ = some (.int .i64 a1_3) := (ze zz.out 3).trans rfl; have zfd : w31.cell? ⟨zA, 4, none⟩ = some (.int .i64 a1_4) := (ze zz.out 4).trans rfl; have zgd : w31.cell? ⟨zA, 5, none⟩ = some (.int .i64 a1_5) := (ze zz.out 5).trans rfl; have zhd : w31.cell? ⟨zA, 6, none⟩ = some (.int .i64 a1_6) := (ze zz.out 6).trans rfl; have zid := zc zz.out 0; have zjd := zc zz.out 1; have zkd := zc zz.out 2; have zld := zc zz.out 3; have zmd := zc zz.out 4; have znd := zc zz.out 5; have zod := zc zz.out 6))
     go_ret
     exact ⟨by first | rfl | (simp [errW_none, errW_some] <;> rfl) | (simp [*, errW_none, errW_some] <;> rfl), by repeat (first | (with_reducible first | exact HB.out | apply zg | apply zd | apply zf | refine zj ?_ zD.out | refine zj ?_ zE.out) | exact HB.out)⟩
   ·rw [if_neg c5] at H
    have c5b0 : (a0_2 == a1_2) = false := beq_eq_false_iff_ne.mpr c5
    have c5b1 : (a0_2 != a1_2) = true := bne_iff_ne.mpr c5
    obtain rfl := Option.some.inj H
    go_enter Tryd.func74, Tryd.ntmps74
    go_wp2_with (first | ((with_reducible refine zu (N := 2) rfl ?_); refine zs ?hg (N := 2) ?hd (cs := #[.string a0_0, .string a0_1, .int .i64 a0_2, .int .i64 a0_3, .int .i64 a0_4, .int .i64 a0_5, .int .i64 a0_6]) (t := 53) ?hr ?_; (case hd => rfl); (case hg => rfl); (case hr => first | (go_simp; done) | (go_simp; rfl)); intro zy hg w35 hbox hb; have n0_ := Aside0.mk (zi (by exact bl HB.out) hb); have n1_ := Aside0.mk (hbox); have n2_ := Aside0.mk ((by rw [hg]; exact (zh (by exact bl HB.out)) : w.heap.size ≤ zy)); have n3_ := Aside0.mk ((by rw [hg]; exact (zh (by exact bl HB.out)) : w.heap.size ≤ zy)); clear HB; have HB := n0_; have zx := n1_; have GW224 := n2_; have zD := n3_; clear n0_ n1_ n2_ n3_; clear hb hbox hg) | ((with_reducible refine zu (N := 3) rfl ?_); refine zs ?hg (N := 3) ?hd (cs := #[.string a1_0, .string a1_1, .int .i64 a1_2, .int .i64 a1_3, .int .i64 a1_4, .int .i64 a1_5, .int .i64 a1_6]) (t := 53) ?hr ?_; (case hd => rfl); (case hg => rfl); (case hr => first | (go_simp; done) | (go_simp; rfl)); intro zA hg w36 hbox hb; have n0_ := Aside0.mk (zm (g := zy) (o := .cells #[.string a0_0, .string a0_1, .int .i64 a0_2, .int .i64 a0_3, .int .i64 a0_4, .int .i64 a0_5, .int .i64 a0_6] 53 (0, 0)) (BL zx.out) hb); have n1_ := Aside0.mk (zi (by exact bl HB.out) hb); have n2_ := Aside0.mk (hbox); have n3_ := Aside0.mk ((by rw [hg]; exact (zh (by exact bl HB.out)) : w.heap.size ≤ zA)); have n4_ := Aside0.mk ((by rw [hg]; exact (zh (by exact bl HB.out)) : w.heap.size ≤ zA)); have n5_ := Aside0.mk ((by rw [hg]; exact Nat.ne_of_lt (blk_lt (g := zy) (o := .cells #[.string a0_0, .string a0_1, .int .i64 a0_2, .int .i64 a0_3, .int .i64 a0_4, .int .i64 a0_5, .int .i64 a0_6] 53 (0, 0)) (BL zx.out)) : zy ≠ zA)); have n6_ := Aside0.mk ((by rw [hg]; exact Nat.ne_of_gt (blk_lt (g := zy) (o := .cells #[.string a0_0, .string a0_1, .int .i64 a0_2, .int .i64 a0_3, .int .i64 a0_4, .int .i64 a0_5, .int .i64 a0_6] 53 (0, 0)) (BL zx.out)) : zA ≠ zy)); clear zx; clear HB; have zx := n0_; have HB := n1_; have zz := n2_; have GW225 := n3_; have zE := n4_; have zB := n5_; have zC := n6_; clear n0_ n1_ n2_ n3_ n4_ n5_ n6_; clear hb hbox hg; have zff := zB.out; have zgf := zC.out; have zpd : w36.cell? ⟨zy, 0, none⟩ = some (.string a0_0) := (ze zx.out 0).trans rfl; have zqd : w36.cell? ⟨zy, 1, none⟩ = some (.string a0_1) := (ze zx.out 1).trans rfl; have zrd : w36.cell? ⟨zy, 2, none⟩ = some (.int .i64 a0_2) := (ze zx.out 2).trans rfl; have zsd : w36.cell? ⟨zy, 3, none⟩ = some (.int .i64 a0_3) := (ze zx.out 3).trans rfl; have ztd : w36.cell? ⟨zy, 4, none⟩ = some (.int .i64 a0_4) := (ze zx.out 4).trans rfl; have zud : w36.cell? ⟨zy, 5, none⟩ = some (.int .i64 a0_5) := (ze zx.out 5).trans rfl; have zvd : w36.cell? ⟨zy, 6, none⟩ = some (.int .i64 a0_6) := (ze zx.out 6).trans rfl; have zwd := zc zx.out 0; have zxd := zc zx.out 1; have zyd := zc zx.out 2; have zzd := zc zx.out 3; have zAd := zc zx.out 4; have zBd := zc zx.out 5; have zCd := zc zx.out 6; have zDd : w36.cell? ⟨zA, 0, none⟩ = some (.string a1_0) := (ze zz.out 0).trans rfl; have zEd : w36.cell? ⟨zA, 1, none⟩ = some (.string a1_1) := (ze zz.out 1).trans rfl; have zFd : w36.cell? ⟨zA, 2, none⟩ = some (.int .i64 a1_2) := (ze zz.out 2).trans rfl; have zGd : w36.cell? ⟨zA, 3, none⟩ = some (.int .i64 a1_3) := (ze zz.out 3).trans rfl; have zHd : w36.cell? ⟨zA, 4, none⟩ = some (.int .i64 a1_4) := (ze zz.out 4).trans rfl; have zId : w36.cell? ⟨zA, 5, none⟩ = some (.int .i64 a1_5) := (ze zz.out 5).trans rfl; have zJd : w36.cell? ⟨zA, 6, none⟩ = some (.int .i64 a1_6) := (ze zz.out 6).trans rfl; have zKd := zc zz.out 0; have zLd := zc zz.out 1; have zMd := zc zz.out 2; have zNd := zc zz.out 3; have zOd := zc zz.out 4; have zPd := zc zz.out 5; have zQd := zc zz.out 6))
    go_ret
    exact ⟨by first | rfl | (simp [errW_none, errW_some] <;> rfl) | (simp [*, errW_none, errW_some] <;> rfl), by repeat (first | (with_reducible first | exact HB.out | apply zg | apply zd | apply zf | refine zj ?_ zD.out | refine zj ?_ zE.out) | exact HB.out)⟩
  ·rw [if_neg c4] at H
   have c4b0 : (a0_1.toList == a1_1.toList) = false := beq_eq_false_iff_ne.mpr c4
   have c4b1 : (a0_1.toList != a1_1.toList) = true := bne_iff_ne.mpr c4
   obtain rfl := Option.some.inj H
   go_enter Tryd.func74, Tryd.ntmps74
   go_wp2_with (first | ((with_reducible refine zu (N := 2) rfl ?_); refine zs ?hg (N := 2) ?hd (cs := #[.string a0_0, .string a0_1, .int .i64 a0_2, .int .i64 a0_3, .int .i64 a0_4, .int .i64 a0_5, .int .i64 a0_6]) (t := 53) ?hr ?_; (case hd => rfl); (case hg => rfl); (case hr => first | (go_simp; done) | (go_simp; rfl)); intro zy hg w40 hbox hb; have n0_ := Aside0.mk (zi (by exact bl HB.out) hb); have n1_ := Aside0.mk (hbox); have n2_ := Aside0.mk ((by rw [hg]; exact (zh (by exact bl HB.out)) : w.heap.size ≤ zy)); have n3_ := Aside0.mk ((by rw [hg]; exact (zh (by exact bl HB.out)) : w.heap.size ≤ zy)); clear HB; have HB := n0_; have zx := n1_; have GW224 := n2_; have zD := n3_; clear n0_ n1_ n2_ n3_; clear hb hbox hg) | ((with_reducible refine zu (N := 3) rfl ?_); refine zs ?hg (N := 3) ?hd (cs := #[.string a1_0, .string a1_1, .int .i64 a1_2, .int .i64 a1_3, .int .i64 a1_4, .int .i64 a1_5, .int .i64 a1_6]) (t := 53) ?hr ?_; (case hd => rfl); (case hg => rfl); (case hr => first | (go_simp; done) | (go_simp; rfl)); intro zA hg w41 hbox hb; have n0_ := Aside0.mk (zm (g := zy) (o := .cells #[.string a0_0, .string a0_1, .int .i64 a0_2, .int .i64 a0_3, .int .i64 a0_4, .int .i64 a0_5, .int .i64 a0_6] 53 (0, 0)) (BL zx.out) hb); have n1_ := Aside0.mk (zi (by exact bl HB.out) hb); have n2_ := Aside0.mk (hbox); have n3_ := Aside0.mk ((by rw [hg]; exact (zh (by exact bl HB.out)) : w.heap.size ≤ zA)); have n4_ := Aside0.mk ((by rw [hg]; exact (zh (by exact bl HB.out)) : w.heap.size ≤ zA)); have n5_ := Aside0.mk ((by rw [hg]; exact Nat.ne_of_lt (blk_lt (g := zy) (o := .cells #[.string a0_0, .string a0_1, .int .i64 a0_2, .int .i64 a0_3, .int .i64 a0_4, .int .i64 a0_5, .int .i64 a0_6] 53 (0, 0)) (BL zx.out)) : zy ≠ zA)); have n6_ := Aside0.mk ((by rw [hg]; exact Nat.ne_of_gt (blk_lt (g := zy) (o := .cells #[.string a0_0, .string a0_1, .int .i64 a0_2, .int .i64 a0_3, .int .i64 a0_4, .int .i64 a0_5, .int .i64 a0_6] 53 (0, 0)) (BL zx.out)) : zA ≠ zy)); clear zx; clear HB; have zx := n0_; have HB := n1_; have zz := n2_; have GW225 := n3_; have zE := n4_; have zB := n5_; have zC := n6_; clear n0_ n1_ n2_ n3_ n4_ n5_ n6_; clear hb hbox hg; have zhf := zB.out; have zif := zC.out; have zRd : w41.cell? ⟨zy, 0, none⟩ = some (.string a0_0) := (ze zx.out 0).trans rfl; have zSd : w41.cell? ⟨zy, 1, none⟩ = some (.string a0_1) := (ze zx.out 1).trans rfl; have zTd : w41.cell? ⟨zy, 2, none⟩ = some (.int .i64 a0_2) := (ze zx.out 2).trans rfl; have zUd : w41.cell? ⟨zy, 3, none⟩ = some (.int .i64 a0_3) := (ze zx.out 3).trans rfl; have zVd : w41.cell? ⟨zy, 4, none⟩ = some (.int .i64 a0_4) := (ze zx.out 4).trans rfl; have zWd : w41.cell? ⟨zy, 5, none⟩ = some (.int .i64 a0_5) := (ze zx.out 5).trans rfl; have zXd : w41.cell? ⟨zy, 6, none⟩ = some (.int .i64 a0_6) := (ze zx.out 6).trans rfl; have zYd := zc zx.out 0; have zZd := zc zx.out 1; have zae := zc zx.out 2; have zbe := zc zx.out 3; have zce := zc zx.out 4; have zde := zc zx.out 5; have zee := zc zx.out 6; have zfe : w41.cell? ⟨zA, 0, none⟩ = some (.string a1_0) := (ze zz.out 0).trans rfl; have zge : w41.cell? ⟨zA, 1, none⟩ = some (.string a1_1) := (ze zz.out 1).trans rfl; have zhe : w41.cell? ⟨zA, 2, none⟩ = some (.int .i64 a1_2) := (ze zz.out 2).trans rfl; have zie : w41.cell? ⟨zA, 3, none⟩ = some (.int .i64 a1_3) := (ze zz.out 3).trans rfl; have zje : w41.cell? ⟨zA, 4, none⟩ = some (.int .i64 a1_4) := (ze zz.out 4).trans rfl; have zke : w41.cell? ⟨zA, 5, none⟩ = some (.int .i64 a1_5) := (ze zz.out 5).trans rfl; have zle : w41.cell? ⟨zA, 6, none⟩ = some (.int .i64 a1_6) := (ze zz.out 6).trans rfl; have zme := zc zz.out 0; have zne := zc zz.out 1; have zoe := zc zz.out 2; have zpe := zc zz.out 3; have zqe := zc zz.out 4; have zre := zc zz.out 5; have zse := zc zz.out 6))
   go_ret
   exact ⟨by first | rfl | (simp [errW_none, errW_some] <;> rfl) | (simp [*, errW_none, errW_some] <;> rfl), by repeat (first | (with_reducible first | exact HB.out | apply zg | apply zd | apply zf | refine zj ?_ zD.out | refine zj ?_ zE.out) | exact HB.out)⟩
 ·rw [if_neg c3] at H
  have c3b0 : (a0_0.toList == a1_0.toList) = false := beq_eq_false_iff_ne.mpr c3
  have c3b1 : (a0_0.toList != a1_0.toList) = true := bne_iff_ne.mpr c3
  obtain rfl := Option.some.inj H
  go_enter Tryd.func74, Tryd.ntmps74
  go_wp2_with (first | ((with_reducible refine zu (N := 2) rfl ?_); refine zs ?hg (N := 2) ?hd (cs := #[.string a0_0, .string a0_1, .int .i64 a0_2, .int .i64 a0_3, .int .i64 a0_4, .int .i64 a0_5, .int .i64 a0_6]) (t := 53) ?hr ?_; (case hd => rfl); (case hg => rfl); (case hr => first | (go_simp; done) | (go_simp; rfl)); intro zy hg w45 hbox hb; have n0_ := Aside0.mk (zi (by exact bl HB.out) hb); have n1_ := Aside0.mk (hbox); have n2_ := Aside0.mk ((by rw [hg]; exact (zh (by exact bl HB.out)) : w.heap.size ≤ zy)); have n3_ := Aside0.mk ((by rw [hg]; exact (zh (by exact bl HB.out)) : w.heap.size ≤ zy)); clear HB; have HB := n0_; have zx := n1_; have GW224 := n2_; have zD := n3_; clear n0_ n1_ n2_ n3_; clear hb hbox hg) | ((with_reducible refine zu (N := 3) rfl ?_); refine zs ?hg (N := 3) ?hd (cs := #[.string a1_0, .string a1_1, .int .i64 a1_2, .int .i64 a1_3, .int .i64 a1_4, .int .i64 a1_5, .int .i64 a1_6]) (t := 53) ?hr ?_; (case hd => rfl); (case hg => rfl); (case hr => first | (go_simp; done) | (go_simp; rfl)); intro zA hg w46 hbox hb; have n0_ := Aside0.mk (zm (g := zy) (o := .cells #[.string a0_0, .string a0_1, .int .i64 a0_2, .int .i64 a0_3, .int .i64 a0_4, .int .i64 a0_5, .int .i64 a0_6] 53 (0, 0)) (BL zx.out) hb); have n1_ := Aside0.mk (zi (by exact bl HB.out) hb); have n2_ := Aside0.mk (hbox); have n3_ := Aside0.mk ((by rw [hg]; exact (zh (by exact bl HB.out)) : w.heap.size ≤ zA)); have n4_ := Aside0.mk ((by rw [hg]; exact (zh (by exact bl HB.out)) : w.heap.size ≤ zA)); have n5_ := Aside0.mk ((by rw [hg]; exact Nat.ne_of_lt (blk_lt (g := zy) (o := .cells #[.string a0_0, .string a0_1, .int .i64 a0_2, .int .i64 a0_3, .int .i64 a0_4, .int .i64 a0_5, .int .i64 a0_6] 53 (0, 0)) (BL zx.out)) : zy ≠ zA)); have n6_ := Aside0.mk ((by rw [hg]; exact Nat.ne_of_gt (blk_lt (g := zy) (o := .cells #[.string a0_0, .string a0_1, .int .i64 a0_2, .int .i64 a0_3, .int .i64 a0_4, .int .i64 a0_5, .int .i64 a0_6] 53 (0, 0)) (BL zx.out)) : zA ≠ zy)); clear zx; clear HB; have zx := n0_; have HB := n1_; have zz := n2_; have GW225 := n3_; have zE := n4_; have zB := n5_; have zC := n6_; clear n0_ n1_ n2_ n3_ n4_ n5_ n6_; clear hb hbox hg; have zjf := zB.out; have zkf := zC.out; have zte : w46.cell? ⟨zy, 0, none⟩ = some (.string a0_0) := (ze zx.out 0).trans rfl; have zue : w46.cell? ⟨zy, 1, none⟩ = some (.string a0_1) := (ze zx.out 1).trans rfl; have zve : w46.cell? ⟨zy, 2, none⟩ = some (.int .i64 a0_2) := (ze zx.out 2).trans rfl; have zwe : w46.cell? ⟨zy, 3, none⟩ = some (.int .i64 a0_3) := (ze zx.out 3).trans rfl; have zxe : w46.cell? ⟨zy, 4, none⟩ = some (.int .i64 a0_4) := (ze zx.out 4).trans rfl; have zye : w46.cell? ⟨zy, 5, none⟩ = some (.int .i64 a0_5) := (ze zx.out 5).trans rfl; have zze : w46.cell? ⟨zy, 6, none⟩ = some (.int .i64 a0_6) := (ze zx.out 6).trans rfl; have zAe := zc zx.out 0; have zBe := zc zx.out 1; have zCe := zc zx.out 2; have zDe := zc zx.out 3; have zEe := zc zx.out 4; have zFe := zc zx.out 5; have zGe := zc zx.out 6; have zHe : w46.cell? ⟨zA, 0, none⟩ = some (.string a1_0) := (ze zz.out 0).trans rfl; have zIe : w46.cell? ⟨zA, 1, none⟩ = some (.string a1_1) := (ze zz.out 1).trans rfl; have zJe : w46.cell? ⟨zA, 2, none⟩ = some (.int .i64 a1_2) := (ze zz.out 2).trans rfl; have zKe : w46.cell? ⟨zA, 3, none⟩ = some (.int .i64 a1_3) := (ze zz.out 3).trans rfl; have zLe : w46.cell? ⟨zA, 4, none⟩ = some (.int .i64 a1_4) := (ze zz.out 4).trans rfl; have zMe : w46.cell? ⟨zA, 5, none⟩ = some (.int .i64 a1_5) := (ze zz.out 5).trans rfl; have zNe : w46.cell? ⟨zA, 6, none⟩ = some (.int .i64 a1_6) := (ze zz.out 6).trans rfl; have zOe := zc zz.out 0; have zPe := zc zz.out 1; have zQe := zc zz.out 2; have zRe := zc zz.out 3; have zSe := zc zz.out 4; have zTe := zc zz.out 5; have zUe := zc zz.out 6))
  go_ret
  exact ⟨by first | rfl | (simp [errW_none, errW_some] <;> rfl) | (simp [*, errW_none, errW_some] <;> rfl), by repeat (first | (with_reducible first | exact HB.out | apply zg | apply zd | apply zf | refine zj ?_ zD.out | refine zj ?_ zE.out) | exact HB.out)⟩

def laws_eqNodeS.l0 : Nat → List (S53) → List (S53) → Int → Option (Bool)
 | 0, _, _, _ => none
 | k + 1, x0, x1, x5 => if x5 < (x0.length : Int) then (if 0 ≤ x5 then (if x5 < (x1.length : Int) then ((laws_eqNode.f ((rd_T53 x0 x5).f0) ((rd_T53 x0 x5).f1) ((rd_T53 x0 x5).f2) ((rd_T53 x0 x5).f3) ((rd_T53 x0 x5).f4) ((rd_T53 x0 x5).f5) ((rd_T53 x0 x5).f6) ((rd_T53 x1 x5).f0) ((rd_T53 x1 x5).f1) ((rd_T53 x1 x5).f2) ((rd_T53 x1 x5).f3) ((rd_T53 x1 x5).f4) ((rd_T53 x1 x5).f5) ((rd_T53 x1 x5).f6)).bind fun t228 => (if t228 = true then (laws_eqNodeS.l0 k x0 x1 (wrap64 (x5 + 1))) else (some false))) else (none)) else (none)) else (some true)
def laws_eqNodeS.f (k : Nat) (l0 : List (S53)) (l1 : List (S53)) : Option (Bool) := if (l0.length : Int) = (l1.length : Int) then (laws_eqNodeS.l0 k l0 l1 0) else (some false)
theorem laws_eqNodeS.mono_l : ∀ k, (∀ y0 y1 y2, LeO (laws_eqNodeS.l0 k y0 y1 y2) (laws_eqNodeS.l0 (k + 1) y0 y1 y2))
 | 0 => fun _ _ _ r h => by simp [laws_eqNodeS.l0] at h
 | k + 1 => by
  have ih0 := laws_eqNodeS.mono_l k
  ·intro y0 y1 y2
   unfold laws_eqNodeS.l0
   repeat' first
   | (with_reducible exact ih0 _ _ _)
   | (with_reducible exact LeO.refl _)
   | (with_reducible exact LeO.none _)
   | (with_reducible refine LeO.ite ?_ ?_)
   | (with_reducible refine LeO.bind ?_ (fun _ => ?_))
   | exact ih0 _ _ _
   | exact LeO.none _
   | refine LeO.ite ?_ ?_
   | refine LeO.bind ?_ (fun _ => ?_)
theorem laws_eqNodeS.mono : ∀ a0 a1 k, LeO (laws_eqNodeS.f k a0 a1) (laws_eqNodeS.f (k + 1) a0 a1) := by
 intro a0 a1 k
 have ih0 := laws_eqNodeS.mono_l k
 unfold laws_eqNodeS.f
 repeat' first
   | (with_reducible exact ih0 _ _ _)
   | (with_reducible exact LeO.refl _)
   | (with_reducible exact LeO.none _)
   | (with_reducible refine LeO.ite ?_ ?_)
   | (with_reducible refine LeO.bind ?_ (fun _ => ?_))
   | exact ih0 _ _ _
   | exact LeO.none _
   | refine LeO.ite ?_ ?_
   | refine LeO.bind ?_ (fun _ => ?_)
def laws_eqNodeS.T6 : Bool × List (List Nat × List Nat) := (true, [([], []), ([], []), ([0, 1], [0, 1]), ([2], [2]), ([], []), ([], []), ([4, 5], [4, 5]), ([6], [6]), ([3, 7], [3, 7]), ([8], [8])])
def laws_eqNodeS.B6 : List Nat := [0, 0, 3, 7, 0, 0, 48, 112, 255, 511]
theorem laws_eqNodeS.tab6 : rtab .any (opsOf Tryd.f48 6) = laws_eqNodeS.T6 := by kernel_rfl
theorem laws_eqNodeS.bits6 : waitsOk laws_eqNodeS.T6.2 laws_eqNodeS.B6 = true := by kernel_rfl
set_option maxHeartbeats 8000000 in
set_option maxRecDepth 100000 in
theorem laws_eqNodeS.calls (k : Nat) (A0 : Option Addr) (c0 : Nat) (l0 : List (S53)) (A1 : Option Addr) (c1 : Nat) (l1 : List (S53)) (r : Bool) (w : World) (hr0 : Kd.C k53 w A0 l0.length l0) (hc0 : l0.length ≤ c0) (hr1 : Kd.C k53 w A1 l1.length l1) (hc1 : l1.length ≤ c1) (h : laws_eqNodeS.f k l0 l1 = some r) :
  Calls Tryd.prog 48 #[.slice A0 l0.length c0, .slice A1 l1.length c1] w fun e w' => e = .returned (.bool r) ∧ Below w.heap.size w w' := by
 have hu53 := Tryd.underlying53
 have HR0 := Aside0.mk hr0
 have HC0 := Aside0.mk hc0
 clear hr0 hc0
 have HR1 := Aside0.mk hr1
 have HC1 := Aside0.mk hc1
 clear hr1 hc1
 have HB := Aside0.mk (Below.refl w.heap.size w)
 have H : (if (l0.length : Int) = (l1.length : Int) then (laws_eqNodeS.l0 k l0 l1 0) else (some false)) = some r := h
 clear h
 by_cases c3 : (l0.length : Int) = (l1.length : Int)
 ·rw [if_pos c3] at H
  have c3b0 : ((l0.length : Int) == (l1.length : Int)) = true := beq_iff_eq.mpr c3
  have c3b1 : ((l0.length : Int) != (l1.length : Int)) = false := bne_eq_false_iff_eq.mpr c3
  have c3b2 : (l0.length == l1.length) = true := by first | simpa using c3 | (simp at c3 ⊢; omega)
  clear c3
  have H' := Aside0.mk H
  clear H
  go_enter Tryd.func48, Tryd.ntmps48
  go_wp2
  go_loopg [5] k (fun kq v5 w' => ∃ (x5_1 : Int), v5 = .int .i64 x5_1 ∧ Aside0 (laws_eqNodeS.l0 kq l0 l1 x5_1 = some r) ∧ Aside0 (kq ≤ k) ∧ Aside0 (Below w.heap.size w w'))
  case atStart => exact ⟨(0), (by first | rfl | (simp; done) | (simp [*]; done)), H', ⟨Nat.le_refl _⟩, ⟨by repeat (first | (with_reducible first | exact HB.out | apply zg | apply zd | apply zf) | exact HB.out)⟩⟩
  case round =>
   clear H'
   try clear c1
   try clear p2
   try clear c3
   try clear c3b0
   try clear c3b1
   try clear c3b2
   obtain ⟨x5_1, rfl, HA, HK1, HB⟩ := hrel
   cases gk with
   | zero => exact absurd HA.out (by simp [laws_eqNodeS.l0])
   | succ k1 =>
    have H := HA.out
    clear HA
    simp only [laws_eqNodeS.l0] at H
    by_cases c4 : x5_1 < (l0.length : Int)
    ·rw [if_pos c4] at H
     have c4b0 : decide (x5_1 < (l0.length : Int)) = true := decide_eq_true c4
     clear c4
     by_cases c5 : 0 ≤ x5_1
     ·rw [if_pos c5] at H
      have c5b0 : decide (0 ≤ x5_1) = true := decide_eq_true c5
      clear c5
      by_cases c6 : x5_1 < (l1.length : Int)
      ·rw [if_pos c6] at H
       have c6b0 : decide (x5_1 < (l1.length : Int)) = true := decide_eq_true c6
       clear c6
       replace H := Option.bind_eq_some_iff.mp H
       obtain ⟨t228, A70, H⟩ := H
       replace H : (if t228 = true then (laws_eqNodeS.l0 k1 l0 l1 (wrap64 (x5_1 + 1))) else (some false)) = some r := H
       have A7 := Aside0.mk A70
       clear A70
       by_cases c8 : t228 = true
       ·subst c8
        have H1 : (laws_eqNodeS.l0 k1 l0 l1 (wrap64 (x5_1 + 1))) = some r := by rw [if_pos rfl] at H; exact H
        clear H
        have H := H1
        clear H1
        have H' := Aside0.mk H
        clear H
        try go_wp2
        have n0_ := Aside0.mk (zf HB.out)
        clear HB
        have HB := n0_
        clear n0_
        have p226 : 0 ≤ (x5_1 : Int) := of_decide_eq_true (by first | (with_reducible assumption) | assumption)
        have q226 : x5_1 < (l0.length : Int) := of_decide_eq_true (by first | (with_reducible assumption) | assumption)
        obtain ⟨ad226, e226, hx226_0, hx226_1, hx226_2, hx226_3, hx226_4, hx226_5, hx226_6⟩ := at_T53 HR0.out x5_1 p226 q226
        have hw226_6 := hx226_6
        have hw226_5 := hx226_5
        have hw226_4 := hx226_4
        have hw226_3 := hx226_3
        have hw226_2 := hx226_2
        have hw226_1 := hx226_1
        have hw226_0 := hx226_0
        cases e226
        replace hx226_0 := zb HB.out hx226_0
        replace hx226_1 := zb HB.out hx226_1
        replace hx226_2 := zb HB.out hx226_2
        replace hx226_3 := zb HB.out hx226_3
        replace hx226_4 := zb HB.out hx226_4
        replace hx226_5 := zb HB.out hx226_5
        replace hx226_6 := zb HB.out hx226_6
        replace p226 := eq_true p226
        replace q226 := eq_true q226
        have p227 : 0 ≤ (x5_1 : Int) := of_decide_eq_true (by first | (with_reducible assumption) | assumption)
        have q227 : x5_1 < (l1.length : Int) := of_decide_eq_true (by first | (with_reducible assumption) | assumption)
        obtain ⟨ad227, e227, hx227_0, hx227_1, hx227_2, hx227_3, hx227_4, hx227_5, hx227_6⟩ := at_T53 HR1.out x5_1 p227 q227
        have hw227_6 := hx227_6
        have hw227_5 := hx227_5
        have hw227_4 := hx227_4
        have hw227_3 := hx227_3
        have hw227_2 := hx227_2
        have hw227_1 := hx227_1
        have hw227_0 := hx227_0
        cases e227
        replace hx227_0 := zb HB.out hx227_0
        replace hx227_1 := zb HB.out hx227_1
        replace hx227_2 := zb HB.out hx227_2
        replace hx227_3 := zb HB.out hx227_3
        replace hx227_4 := zb HB.out hx227_4
        replace hx227_5 := zb HB.out hx227_5
        replace hx227_6 := zb HB.out hx227_6
        replace p227 := eq_true p227
        replace q227 := eq_true q227
        refine start_ (n := 10) (S := fun w' => w'.cell? (ad226.add ((x5_1).toNat * 7)) = some (.string ((rd_T53 l0 x5_1).f0)) ∧ w'.cell? ⟨(ad226.add ((x5_1).toNat * 7)).block, (ad226.add ((x5_1).toNat * 7)).off + 1, none⟩ = some (.string ((rd_T53 l0 x5_1).f1)) ∧ w'.cell? ⟨(ad226.add ((x5_1).toNat * 7)).block, (ad226.add ((x5_1).toNat * 7)).off + 2, none⟩ = some (.int .i64 ((rd_T53 l0 x5_1).f2)) ∧ w'.cell? ⟨(ad226.add ((x5_1).toNat * 7)).block, (ad226.add ((x5_1).toNat * 7)).off + 3, none⟩ = some (.int .i64 ((rd_T53 l0 x5_1).f3)) ∧ w'.cell? ⟨(ad226.add ((x5_1).toNat * 7)).block, (ad226.add ((x5_1).toNat * 7)).off + 4, none⟩ = some (.int .i64 ((rd_T53 l0 x5_1).f4)) ∧ w'.cell? ⟨(ad226.add ((x5_1).toNat * 7)).block, (ad226.add ((x5_1).toNat * 7)).off + 5, none⟩ = some (.int .i64 ((rd_T53 l0 x5_1).f5)) ∧ w'.cell? ⟨(ad226.add ((x5_1).toNat * 7)).block, (ad226.add ((x5_1).toNat * 7)).off + 6, none⟩ = some (.int .i64 ((rd_T53 l0 x5_1).f6)) ∧ w'.cell? (ad227.add ((x5_1).toNat * 7)) = some (.string ((rd_T53 l1 x5_1).f0)) ∧ w'.cell? ⟨(ad227.add ((x5_1).toNat * 7)).block, (ad227.add ((x5_1).toNat * 7)).off + 1, none⟩ = some (.string ((rd_T53 l1 x5_1).f1)) ∧ w'.cell? ⟨(ad227.add ((x5_1).toNat * 7)).block, (ad227.add ((x5_1).toNat * 7)).off + 2, none⟩ = some (.int .i64 ((rd_T53 l1 x5_1).f2)) ∧ w'.cell? ⟨(ad227.add ((x5_1).toNat * 7)).block, (ad227.add ((x5_1).toNat * 7)).off + 3, none⟩ = some (.int .i64 ((rd_T53 l1 x5_1).f3)) ∧ w'.cell? ⟨(ad227.add ((x5_1).toNat * 7)).block, (ad227.add ((x5_1).toNat * 7)).off + 4, none⟩ = some (.int .i64 ((rd_T53 l1 x5_1).f4)) ∧ w'.cell? ⟨(ad227.add ((x5_1).toNat * 7)).block, (ad227.add ((x5_1).toNat * 7)).off + 5, none⟩ = some (.int .i64 ((rd_T53 l1 x5_1).f5)) ∧ w'.cell? ⟨(ad227.add ((x5_1).toNat * 7)).block, (ad227.add ((x5_1).toNat * 7)).off + 6, none⟩ = some (.int .i64 ((rd_T53 l1 x5_1).f6))) (ds := []) #[false, false, false, false, false, false, false, false, false, false] (by kernel_rfl) rfl rfl ⟨(zb HB.out hw226_0), (zb HB.out hw226_1), (zb HB.out hw226_2), (zb HB.out hw226_3), (zb HB.out hw226_4), (zb HB.out hw226_5), (zb HB.out hw226_6), (zb HB.out hw227_0), (zb HB.out hw227_1), (zb HB.out hw227_2), (zb HB.out hw227_3), (zb HB.out hw227_4), (zb HB.out hw227_5), (zb HB.out hw227_6)⟩ (fun hHeld => ?_); refine with_tabW laws_eqNodeS.tab6 laws_eqNodeS.bits6 (fun HT_ HW_ => ?_)
        generalize wr.drew = w9 at HB hx226_0 hx226_1 hx226_2 hx226_3 hx226_4 hx226_5 hx226_6 hx227_0 hx227_1 hx227_2 hx227_3 hx227_4 hx227_5 hx227_6 hHeld ⊢
        refine zt (i := 0) (N := some 17) (v := ?_) (a' := ?_) #[true, false, false, false, false, false, false, false, false, false] rfl rfl (zp HT_.out (by kernel_rfl)) (fun _ _ _ h => h) (Or.inl ⟨by rfl, ?_⟩) ?_ ?_
        rotate_left
        ·intro w'
         go_simp
         with_reducible rfl
        rotate_left
        ·simp only [Act.put, List.setIfInBounds_toArray, List.set_cons_zero, List.set_cons_succ, zq, zr]
         rfl
        refine zt (i := 1) (N := some 18) (v := ?_) (a' := ?_) #[true, true, false, false, false, false, false, false, false, false] rfl rfl (zp HT_.out (by kernel_rfl)) (fun _ _ _ h => h) (Or.inl ⟨by rfl, ?_⟩) ?_ ?_
        rotate_left
        ·intro w'
         go_simp
         with_reducible rfl
        rotate_left
        ·simp only [Act.put, List.setIfInBounds_toArray, List.set_cons_zero, List.set_cons_succ, zq, zr]
         rfl
        refine zt (i := 2) (N := some 19) (v := ?_) (a' := ?_) #[true, true, true, false, false, false, false, false, false, false] rfl rfl (zp HT_.out (by kernel_rfl)) (fun _ _ _ h => h) (Or.inl ⟨by rfl, ?_⟩) ?_ ?_
        rotate_left
        ·intro w'
         go_simp
         with_reducible rfl
        rotate_left
        ·simp only [Act.put, List.setIfInBounds_toArray, List.set_cons_zero, List.set_cons_succ, zq, zr]
         rfl
        refine zt (i := 4) (N := some 21) (v := ?_) (a' := ?_) #[true, true, true, false, true, false, false, false, false, false] rfl rfl (zp HT_.out (by kernel_rfl)) (fun _ _ _ h => h) (Or.inl ⟨by rfl, ?_⟩) ?_ ?_
        rotate_left
        ·intro w'
         go_simp
         with_reducible rfl
        rotate_left
        ·simp only [Act.put, List.setIfInBounds_toArray, List.set_cons_zero, List.set_cons_succ, zq, zr]
         rfl
        refine zt (i := 5) (N := some 22) (v := ?_) (a' := ?_) #[true, true, true, false, true, true, false, false, false, false] rfl rfl (zp HT_.out (by kernel_rfl)) (fun _ _ _ h => h) (Or.inl ⟨by rfl, ?_⟩) ?_ ?_
        rotate_left
        ·intro w'
         go_simp
         with_reducible rfl
        rotate_left
        ·simp only [Act.put, List.setIfInBounds_toArray, List.set_cons_zero, List.set_cons_succ, zq, zr]
         rfl
        refine zt (i := 6) (N := some 23) (v := ?_) (a' := ?_) #[true, true, true, false, true, true, true, false, false, false] rfl rfl (zp HT_.out (by kernel_rfl)) (fun _ _ _ h => h) (Or.inl ⟨by rfl, ?_⟩) ?_ ?_
        rotate_left
        ·intro w'
         go_simp
         with_reducible rfl
        rotate_left
        ·simp only [Act.put, List.setIfInBounds_toArray, List.set_cons_zero, List.set_cons_succ, zq, zr]
         rfl
        refine take_ (i := 3) (N := some 20) (v := ?_) (a' := ?_) #[true, true, true, true, true, true, true, false, false, false] rfl rfl (take_ofW HT_.out HW_.out (by kernel_rfl)) (fun _ _ _ h => h) (Or.inl ⟨by rfl, ?_⟩) hHeld ?_ ?_
        rotate_left
        ·rintro w' ⟨s0, s1, s2, s3, s4, s5, s6, s7, s8, s9, s10, s11, s12, s13⟩
         go_simp
         with_reducible rfl
        rotate_left
        ·simp only [Act.put, List.setIfInBounds_toArray, List.set_cons_zero, List.set_cons_succ, zq, zr]
         rfl
        refine take_ (i := 7) (N := some 24) (v := ?_) (a' := ?_) #[true, true, true, true, true, true, true, true, false, false] rfl rfl (take_ofW HT_.out HW_.out (by kernel_rfl)) (fun _ _ _ h => h) (Or.inl ⟨by rfl, ?_⟩) hHeld ?_ ?_
        rotate_left
        ·rintro w' ⟨s0, s1, s2, s3, s4, s5, s6, s7, s8, s9, s10, s11, s12, s13⟩
         go_simp
         with_reducible rfl
        rotate_left
        ·simp only [Act.put, List.setIfInBounds_toArray, List.set_cons_zero, List.set_cons_succ, zq, zr]
         rfl
        refine one_ (i := 8) (N := some 25) #[true, true, true, true, true, true, true, true, true, false] rfl rfl (one_of HT_.out (by kernel_rfl)) (by decide) (fun K hK => ?_)
        refine goes_ Tryd.func74 (by kernel_rfl) rfl #[.agg #[.string ((rd_T53 l0 x5_1).f0), .string ((rd_T53 l0 x5_1).f1), .int .i64 ((rd_T53 l0 x5_1).f2), .int .i64 ((rd_T53 l0 x5_1).f3), .int .i64 ((rd_T53 l0 x5_1).f4), .int .i64 ((rd_T53 l0 x5_1).f5), .int .i64 ((rd_T53 l0 x5_1).f6)], .agg #[.string ((rd_T53 l1 x5_1).f0), .string ((rd_T53 l1 x5_1).f1), .int .i64 ((rd_T53 l1 x5_1).f2), .int .i64 ((rd_T53 l1 x5_1).f3), .int .i64 ((rd_T53 l1 x5_1).f4), .int .i64 ((rd_T53 l1 x5_1).f5), .int .i64 ((rd_T53 l1 x5_1).f6)]] (by rfl) rfl rfl (by (try simp only [List.map_toArray, List.map_cons, List.map_nil]); first | done | rfl) ?_
        with_reducible refine (laws_eqNode.calls ((rd_T53 l0 x5_1).f0) ((rd_T53 l0 x5_1).f1) ((rd_T53 l0 x5_1).f2) ((rd_T53 l0 x5_1).f3) ((rd_T53 l0 x5_1).f4) ((rd_T53 l0 x5_1).f5) ((rd_T53 l0 x5_1).f6) ((rd_T53 l1 x5_1).f0) ((rd_T53 l1 x5_1).f1) ((rd_T53 l1 x5_1).f2) ((rd_T53 l1 x5_1).f3) ((rd_T53 l1 x5_1).f4) ((rd_T53 l1 x5_1).f5) ((rd_T53 l1 x5_1).f6) true _ A7.out).mono ?_
        rintro e w10 ⟨rfl, hb⟩
        refine ⟨_, rfl, ?_⟩
        have n0_ := Aside0.mk (zi (by repeat (first | (with_reducible first | exact HB.out | apply zg | apply zd | apply zf) | exact HB.out)) hb)
        clear HB
        have HB := n0_
        clear n0_
        (try clear hb)
        (try clear hb2)
        (try clear hk)
        (try clear hi)
        refine hK.out _ _ ⟨(zb HB.out hw226_0), (zb HB.out hw226_1), (zb HB.out hw226_2), (zb HB.out hw226_3), (zb HB.out hw226_4), (zb HB.out hw226_5), (zb HB.out hw226_6), (zb HB.out hw227_0), (zb HB.out hw227_1), (zb HB.out hw227_2), (zb HB.out hw227_3), (zb HB.out hw227_4), (zb HB.out hw227_5), (zb HB.out hw227_6)⟩ (fun hHeld => ?_)
        clear hK K
        refine norm_ (a' := ?_) ?_ ?_
        rotate_left
        ·show Act.put _ (some 25) _ = _
         simp only [Act.put, List.setIfInBounds_toArray, List.set_cons_zero, List.set_cons_succ, zq, zr]
         rfl
        refine zt (i := 9) (N := some 26) (v := ?_) (a' := ?_) #[true, true, true, true, true, true, true, true, true, true] rfl rfl (zp HT_.out (by kernel_rfl)) (fun _ _ _ h => h) (Or.inl ⟨by rfl, ?_⟩) ?_ ?_
        rotate_left
        ·intro w'
         go_simp
         with_reducible rfl
        rotate_left
        ·simp only [Act.put, List.setIfInBounds_toArray, List.set_cons_zero, List.set_cons_succ, zq, zr]
         rfl
        refine done_ (done_of HT_.out (by kernel_rfl)) ?_
        try go_wp2
        go_roundg k1
        case measure => have := HK1.out; omega
        case rel => exact ⟨(wrap64 (x5_1 + 1)), (by first | rfl | (simp; done) | (simp [*]; done)), H', ⟨by have := HK1.out; omega⟩, ⟨by repeat (first | (with_reducible first | exact HB.out | apply zg | apply zd | apply zf) | exact HB.out)⟩⟩
       ·replace c8 := Bool.eq_false_iff.mpr c8
        subst c8
        have H1 : (some false) = some r := by rw [if_neg (show ¬ (false = true) by decide)] at H; exact H
        clear H
        have H := H1
        clear H1
        obtain rfl := Option.some.inj H
        try go_wp2
        have n0_ := Aside0.mk (zf HB.out)
        clear HB
        have HB := n0_
        clear n0_
        have p226 : 0 ≤ (x5_1 : Int) := of_decide_eq_true (by first | (with_reducible assumption) | assumption)
        have q226 : x5_1 < (l0.length : Int) := of_decide_eq_true (by first | (with_reducible assumption) | assumption)
        obtain ⟨ad226, e226, hx226_0, hx226_1, hx226_2, hx226_3, hx226_4, hx226_5, hx226_6⟩ := at_T53 HR0.out x5_1 p226 q226
        have hw226_6 := hx226_6
        have hw226_5 := hx226_5
        have hw226_4 := hx226_4
        have hw226_3 := hx226_3
        have hw226_2 := hx226_2
        have hw226_1 := hx226_1
        have hw226_0 := hx226_0
        cases e226
        replace hx226_0 := zb HB.out hx226_0
        replace hx226_1 := zb HB.out hx226_1
        replace hx226_2 := zb HB.out hx226_2
        replace hx226_3 := zb HB.out hx226_3
        replace hx226_4 := zb HB.out hx226_4
        replace hx226_5 := zb HB.out hx226_5
        replace hx226_6 := zb HB.out hx226_6
        replace p226 := eq_true p226
        replace q226 := eq_true q226
        have p227 : 0 ≤ (x5_1 : Int) := of_decide_eq_true (by first | (with_reducible assumption) | assumption)
        have q227 : x5_1 < (l1.length : Int) := of_decide_eq_true (by first | (with_reducible assumption) | assumption)
        obtain ⟨ad227, e227, hx227_0, hx227_1, hx227_2, hx227_3, hx227_4, hx227_5, hx227_6⟩ := at_T53 HR1.out x5_1 p227 q227
        have hw227_6 := hx227_6
        have hw227_5 := hx227_5
        have hw227_4 := hx227_4
        have hw227_3 := hx227_3
        have hw227_2 := hx227_2
        have hw227_1 := hx227_1
        have hw227_0 := hx227_0
        cases e227
        replace hx227_0 := zb HB.out hx227_0
        replace hx227_1 := zb HB.out hx227_1
        replace hx227_2 := zb HB.out hx227_2
        replace hx227_3 := zb HB.out hx227_3
        replace hx227_4 := zb HB.out hx227_4
        replace hx227_5 := zb HB.out hx227_5
        replace hx227_6 := zb HB.out hx227_6
        replace p227 := eq_true p227
        replace q227 := eq_true q227
        refine start_ (n := 10) (S := fun w' => w'.cell? (ad226.add ((x5_1).toNat * 7)) = some (.string ((rd_T53 l0 x5_1).f0)) ∧ w'.cell? ⟨(ad226.add ((x5_1).toNat * 7)).block, (ad226.add ((x5_1).toNat * 7)).off + 1, none⟩ = some (.string ((rd_T53 l0 x5_1).f1)) ∧ w'.cell? ⟨(ad226.add ((x5_1).toNat * 7)).block, (ad226.add ((x5_1).toNat * 7)).off + 2, none⟩ = some (.int .i64 ((rd_T53 l0 x5_1).f2)) ∧ w'.cell? ⟨(ad226.add ((x5_1).toNat * 7)).block, (ad226.add ((x5_1).toNat * 7)).off + 3, none⟩ = some (.int .i64 ((rd_T53 l0 x5_1).f3)) ∧ w'.cell? ⟨(ad226.add ((x5_1).toNat * 7)).block, (ad226.add ((x5_1).toNat * 7)).off + 4, none⟩ = some (.int .i64 ((rd_T53 l0 x5_1).f4)) ∧ w'.cell? ⟨(ad226.add ((x5_1).toNat * 7)).block, (ad226.add ((x5_1).toNat * 7)).off + 5, none⟩ = some (.int .i64 ((rd_T53 l0 x5_1).f5)) ∧ w'.cell? ⟨(ad226.add ((x5_1).toNat * 7)).block, (ad226.add ((x5_1).toNat * 7)).off + 6, none⟩ = some (.int .i64 ((rd_T53 l0 x5_1).f6)) ∧ w'.cell? (ad227.add ((x5_1).toNat * 7)) = some (.string ((rd_T53 l1 x5_1).f0)) ∧ w'.cell? ⟨(ad227.add ((x5_1).toNat * 7)).block, (ad227.add ((x5_1).toNat * 7)).off + 1, none⟩ = some (.string ((rd_T53 l1 x5_1).f1)) ∧ w'.cell? ⟨(ad227.add ((x5_1).toNat * 7)).block, (ad227.add ((x5_1).toNat * 7)).off + 2, none⟩ = some (.int .i64 ((rd_T53 l1 x5_1).f2)) ∧ w'.cell? ⟨(ad227.add ((x5_1).toNat * 7)).block, (ad227.add ((x5_1).toNat * 7)).off + 3, none⟩ = some (.int .i64 ((rd_T53 l1 x5_1).f3)) ∧ w'.cell? ⟨(ad227.add ((x5_1).toNat * 7)).block, (ad227.add ((x5_1).toNat * 7)).off + 4, none⟩ = some (.int .i64 ((rd_T53 l1 x5_1).f4)) ∧ w'.cell? ⟨(ad227.add ((x5_1).toNat * 7)).block, (ad227.add ((x5_1).toNat * 7)).off + 5, none⟩ = some (.int .i64 ((rd_T53 l1 x5_1).f5)) ∧ w'.cell? ⟨(ad227.add ((x5_1).toNat * 7)).block, (ad227.add ((x5_1).toNat * 7)).off + 6, none⟩ = some (.int .i64 ((rd_T53 l1 x5_1).f6))) (ds := []) #[false, false, false, false, false, false, false, false, false, false] (by kernel_rfl) rfl rfl ⟨(zb HB.out hw226_0), (zb HB.out hw226_1), (zb HB.out hw226_2), (zb HB.out hw226_3), (zb HB.out hw226_4), (zb HB.out hw226_5), (zb HB.out hw226_6), (zb HB.out hw227_0), (zb HB.out hw227_1), (zb HB.out hw227_2), (zb HB.out hw227_3), (zb HB.out hw227_4), (zb HB.out hw227_5), (zb HB.out hw227_6)⟩ (fun hHeld => ?_); refine with_tabW laws_eqNodeS.tab6 laws_eqNodeS.bits6 (fun HT_ HW_ => ?_)
        generalize wr.drew = w11 at HB hx226_0 hx226_1 hx226_2 hx226_3 hx226_4 hx226_5 hx226_6 hx227_0 hx227_1 hx227_2 hx227_3 hx227_4 hx227_5 hx227_6 hHeld ⊢
        refine zt (i := 0) (N := some 17) (v := ?_) (a' := ?_) #[true, false, false, false, false, false, false, false, false, false] rfl rfl (zp HT_.out (by kernel_rfl)) (fun _ _ _ h => h) (Or.inl ⟨by rfl, ?_⟩) ?_ ?_
        rotate_left
        ·intro w'
         go_simp
         with_reducible rfl
        rotate_left
        ·simp only [Act.put, List.setIfInBounds_toArray, List.set_cons_zero, List.set_cons_succ, zq, zr]
         rfl
        refine zt (i := 1) (N := some 18) (v := ?_) (a' := ?_) #[true, true, false, false, false, false, false, false, false, false] rfl rfl (zp HT_.out (by kernel_rfl)) (fun _ _ _ h => h) (Or.inl ⟨by rfl, ?_⟩) ?_ ?_
        rotate_left
        ·intro w'
         go_simp
         with_reducible rfl
        rotate_left
        ·simp only [Act.put, List.setIfInBounds_toArray, List.set_cons_zero, List.set_cons_succ, zq, zr]
         rfl
        refine zt (i := 2) (N := some 19) (v := ?_) (a' := ?_) #[true, true, true, false, false, false, false, false, false, false] rfl rfl (zp HT_.out (by kernel_rfl)) (fun _ _ _ h => h) (Or.inl ⟨by rfl, ?_⟩) ?_ ?_
        rotate_left
        ·intro w'
         go_simp
         with_reducible rfl
        rotate_left
        ·simp only [Act.put, List.setIfInBounds_toArray, List.set_cons_zero, List.set_cons_succ, zq, zr]
         rfl
        refine zt (i := 4) (N := some 21) (v := ?_) (a' := ?_) #[true, true, true, false, true, false, false, false, false, false] rfl rfl (zp HT_.out (by kernel_rfl)) (fun _ _ _ h => h) (Or.inl ⟨by rfl, ?_⟩) ?_ ?_
        rotate_left
        ·intro w'
         go_simp
         with_reducible rfl
        rotate_left
        ·simp only [Act.put, List.setIfInBounds_toArray, List.set_cons_zero, List.set_cons_succ, zq, zr]
         rfl
        refine zt (i := 5) (N := some 22) (v := ?_) (a' := ?_) #[true, true, true, false, true, true, false, false, false, false] rfl rfl (zp HT_.out (by kernel_rfl)) (fun _ _ _ h => h) (Or.inl ⟨by rfl, ?_⟩) ?_ ?_
        rotate_left
        ·intro w'
         go_simp
         with_reducible rfl
        rotate_left
        ·simp only [Act.put, List.setIfInBounds_toArray, List.set_cons_zero, List.set_cons_succ, zq, zr]
         rfl
        refine zt (i := 6) (N := some 23) (v := ?_) (a' := ?_) #[true, true, true, false, true, true, true, false, false, false] rfl rfl (zp HT_.out (by kernel_rfl)) (fun _ _ _ h => h) (Or.inl ⟨by rfl, ?_⟩) ?_ ?_
        rotate_left
        ·intro w'
         go_simp
         with_reducible rfl
        rotate_left
        ·simp only [Act.put, List.setIfInBounds_toArray, List.set_cons_zero, List.set_cons_succ, zq, zr]
         rfl
        refine take_ (i := 3) (N := some 20) (v := ?_) (a' := ?_) #[true, true, true, true, true, true, true, false, false, false] rfl rfl (take_ofW HT_.out HW_.out (by kernel_rfl)) (fun _ _ _ h => h) (Or.inl ⟨by rfl, ?_⟩) hHeld ?_ ?_
        rotate_left
        ·rintro w' ⟨s0, s1, s2, s3, s4, s5, s6, s7, s8, s9, s10, s11, s12, s13⟩
         go_simp
         with_reducible rfl
        rotate_left
        ·simp only [Act.put, List.setIfInBounds_toArray, List.set_cons_zero, List.set_cons_succ, zq, zr]
         rfl
        refine take_ (i := 7) (N := some 24) (v := ?_) (a' := ?_) #[true, true, true, true, true, true, true, true, false, false] rfl rfl (take_ofW HT_.out HW_.out (by kernel_rfl)) (fun _ _ _ h => h) (Or.inl ⟨by rfl, ?_⟩) hHeld ?_ ?_
        rotate_left
        ·rintro w' ⟨s0, s1, s2, s3, s4, s5, s6, s7, s8, s9, s10, s11, s12, s13⟩
         go_simp
         with_reducible rfl
        rotate_left
        ·simp only [Act.put, List.setIfInBounds_toArray, List.set_cons_zero, List.set_cons_succ, zq, zr]
         rfl
        refine one_ (i := 8) (N := some 25) #[true, true, true, true, true, true, true, true, true, false] rfl rfl (one_of HT_.out (by kernel_rfl)) (by decide) (fun K hK => ?_)
        refine goes_ Tryd.func74 (by kernel_rfl) rfl #[.agg #[.string ((rd_T53 l0 x5_1).f0), .string ((rd_T53 l0 x5_1).f1), .int .i64 ((rd_T53 l0 x5_1).f2), .int .i64 ((rd_T53 l0 x5_1).f3), .int .i64 ((rd_T53 l0 x5_1).f4), .int .i64 ((rd_T53 l0 x5_1).f5), .int .i64 ((rd_T53 l0 x5_1).f6)], .agg #[.string ((rd_T53 l1 x5_1).f0), .string ((rd_T53 l1 x5_1).f1), .int .i64 ((rd_T53 l1 x5_1).f2), .int .i64 ((rd_T53 l1 x5_1).f3), .int .i64 ((rd_T53 l1 x5_1).f4), .int .i64 ((rd_T53 l1 x5_1).f5), .int .i64 ((rd_T53 l1 x5_1).f6)]] (by rfl) rfl rfl (by (try simp only [List.map_toArray, List.map_cons, List.map_nil]); first | done | rfl) ?_
        with_reducible refine (laws_eqNode.calls ((rd_T53 l0 x5_1).f0) ((rd_T53 l0 x5_1).f1) ((rd_T53 l0 x5_1).f2) ((rd_T53 l0 x5_1).f3) ((rd_T53 l0 x5_1).f4) ((rd_T53 l0 x5_1).f5) ((rd_T53 l0 x5_1).f6) ((rd_T53 l1 x5_1).f0) ((rd_T53 l1 x5_1).f1) ((rd_T53 l1 x5_1).f2) ((rd_T53 l1 x5_1).f3) ((rd_T53 l1 x5_1).f4) ((rd_T53 l1 x5_1).f5) ((rd_T53 l1 x5_1).f6) false _ A7.out).mono ?_
        rintro e w12 ⟨rfl, hb⟩
        refine ⟨_, rfl, ?_⟩
        have n0_ := Aside0.mk (zi (by repeat (first | (with_reducible first | exact HB.out | apply zg | apply zd | apply zf) | exact HB.out)) hb)
        clear HB
        have HB := n0_
        clear n0_
        (try clear hb)
        (try clear hb2)
        (try clear hk)
        (try clear hi)
        refine hK.out _ _ ⟨(zb HB.out hw226_0), (zb HB.out hw226_1), (zb HB.out hw226_2), (zb HB.out hw226_3), (zb HB.out hw226_4), (zb HB.out hw226_5), (zb HB.out hw226_6), (zb HB.out hw227_0), (zb HB.out hw227_1), (zb HB.out hw227_2), (zb HB.out hw227_3), (zb HB.out hw227_4), (zb HB.out hw227_5), (zb HB.out hw227_6)⟩ (fun hHeld => ?_)
        clear hK K
        refine norm_ (a' := ?_) ?_ ?_
        rotate_left
        ·show Act.put _ (some 25) _ = _
         simp only [Act.put, List.setIfInBounds_toArray, List.set_cons_zero, List.set_cons_succ, zq, zr]
         rfl
        refine zt (i := 9) (N := some 26) (v := ?_) (a' := ?_) #[true, true, true, true, true, true, true, true, true, true] rfl rfl (zp HT_.out (by kernel_rfl)) (fun _ _ _ h => h) (Or.inl ⟨by rfl, ?_⟩) ?_ ?_
        rotate_left
        ·intro w'
         go_simp
         with_reducible rfl
        rotate_left
        ·simp only [Act.put, List.setIfInBounds_toArray, List.set_cons_zero, List.set_cons_succ, zq, zr]
         rfl
        refine done_ (done_of HT_.out (by kernel_rfl)) ?_
        try go_wp2
        go_ret
        exact ⟨by first | rfl | (simp [errW_none, errW_some] <;> rfl) | (simp [*, errW_none, errW_some] <;> rfl), by repeat (first | (with_reducible first | exact HB.out | apply zg | apply zd | apply zf) | exact HB.out)⟩
      ·rw [if_neg c6] at H
       exact absurd H (by simp)
     ·rw [if_neg c5] at H
      exact absurd H (by simp)
    ·rw [if_neg c4] at H
     have c4b0 : decide (x5_1 < (l0.length : Int)) = false := decide_eq_false c4
     clear c4
     obtain rfl := Option.some.inj H
     go_wp2
     go_ret
     exact ⟨by first | rfl | (simp [errW_none, errW_some] <;> rfl) | (simp [*, errW_none, errW_some] <;> rfl), by repeat (first | (with_reducible first | exact HB.out | apply zg | apply zd | apply zf) | exact HB.out)⟩
 ·rw [if_neg c3] at H
  have c3b0 : ((l0.length : Int) == (l1.length : Int)) = false := beq_eq_false_iff_ne.mpr c3
  have c3b1 : ((l0.length : Int) != (l1.length : Int)) = true := bne_iff_ne.mpr c3
  have c3b2 : (l0.length == l1.length) = false := by first | simpa using c3 | (simp at c3 ⊢; omega)
  obtain rfl := Option.some.inj H
  go_enter Tryd.func48, Tryd.ntmps48
  go_wp2
  go_ret
  exact ⟨by first | rfl | (simp [errW_none, errW_some] <;> rfl) | (simp [*, errW_none, errW_some] <;> rfl), by repeat (first | (with_reducible first | exact HB.out | apply zg | apply zd | apply zf) | exact HB.out)⟩

def laws_eqTree.f (k : Nat) (l0_0 : List (S53)) (l1_0 : List (S53)) : Option (Bool) := (laws_eqNodeS.f k l0_0 l1_0).bind fun t231 => (if t231 = true then (some true) else (some false))
theorem laws_eqTree.mono : ∀ a0 a1 k, LeO (laws_eqTree.f k a0 a1) (laws_eqTree.f (k + 1) a0 a1) := by
 intro a0 a1 k
 unfold laws_eqTree.f
 repeat' first
   | (with_reducible exact laws_eqNodeS.mono _ _ _)
   | (with_reducible exact LeO.refl _)
   | (with_reducible exact LeO.none _)
   | (with_reducible refine LeO.ite ?_ ?_)
   | (with_reducible refine LeO.bind ?_ (fun _ => ?_))
   | exact laws_eqNodeS.mono _ _ _
   | exact LeO.none _
   | refine LeO.ite ?_ ?_
   | refine LeO.bind ?_ (fun _ => ?_)
set_option maxHeartbeats 8000000 in
set_option maxRecDepth 100000 in
theorem laws_eqTree.calls (k : Nat) (A0_0 : Option Addr) (c0_0 : Nat) (l0_0 : List (S53)) (A1_0 : Option Addr) (c1_0 : Nat) (l1_0 : List (S53)) (r : Bool) (w : World) (hr0_0 : Kd.C k53 w A0_0 l0_0.length l0_0) (hc0_0 : l0_0.length ≤ c0_0) (hr1_0 : Kd.C k53 w A1_0 l1_0.length l1_0) (hc1_0 : l1_0.length ≤ c1_0) (h : laws_eqTree.f k l0_0 l1_0 = some r) :
  Calls Tryd.prog 22 #[.agg #[.slice A0_0 l0_0.length c0_0], .agg #[.slice A1_0 l1_0.length c1_0]] w fun e w' => e = .returned (.bool r) ∧ Below w.heap.size w w' := by
 have hu45 := Tryd.underlying45
 have HR0_0 := Aside0.mk hr0_0
 have HC0_0 := Aside0.mk hc0_0
 clear hr0_0 hc0_0
 have HR1_0 := Aside0.mk hr1_0
 have HC1_0 := Aside0.mk hc1_0
 clear hr1_0 hc1_0
 have HB := Aside0.mk (Below.refl w.heap.size w)
 have H : ((laws_eqNodeS.f k l0_0 l1_0).bind fun t231 => (if t231 = true then (some true) else (some false))) = some r := h
 clear h
 replace H := Option.bind_eq_some_iff.mp H
 obtain ⟨t231, A30, H⟩ := H
 replace H : (if t231 = true then (some true) else (some false)) = some r := H
 have A3 := Aside0.mk A30
 clear A30
 by_cases c4 : t231 = true
 ·subst c4
  have H1 : (some true) = some r := by rw [if_pos rfl] at H; exact H
  clear H
  have H := H1
  clear H1
  obtain rfl := Option.some.inj H
  go_enter Tryd.func22, Tryd.ntmps22
  go_wp2_with (first | ((with_reducible refine zu (N := 2) rfl ?_); refine zs ?hg (N := 2) ?hd (cs := #[.slice A0_0 l0_0.length c0_0]) (t := 45) ?hr ?_; (case hd => rfl); (case hg => rfl); (case hr => first | (go_simp; done) | (go_simp; rfl)); intro zy hg w5 hbox hb; have n0_ := Aside0.mk (zi (by exact bl HB.out) hb); have n1_ := Aside0.mk (hbox); have n2_ := Aside0.mk ((by rw [hg]; exact (zh (by exact bl HB.out)) : w.heap.size ≤ zy)); have n3_ := Aside0.mk ((by rw [hg]; exact (zh (by exact bl HB.out)) : w.heap.size ≤ zy)); clear HB; have HB := n0_; have zx := n1_; have GW229 := n2_; have zD := n3_; clear n0_ n1_ n2_ n3_; clear hb hbox hg) | ((with_reducible refine zu (N := 3) rfl ?_); refine zs ?hg (N := 3) ?hd (cs := #[.slice A1_0 l1_0.length c1_0]) (t := 45) ?hr ?_; (case hd => rfl); (case hg => rfl); (case hr => first | (go_simp; done) | (go_simp; rfl)); intro zz hg w6 hbox hb; have n0_ := Aside0.mk (zm (g := zy) (o := .cells #[.slice A0_0 l0_0.length c0_0] 45 (0, 0)) (BL zx.out) hb); have n1_ := Aside0.mk (zi (by exact bl HB.out) hb); have n2_ := Aside0.mk (hbox); have n3_ := Aside0.mk ((by rw [hg]; exact (zh (by exact bl HB.out)) : w.heap.size ≤ zz)); have n4_ := Aside0.mk ((by rw [hg]; exact (zh (by exact bl HB.out)) : w.heap.size ≤ zz)); have n5_ := Aside0.mk ((by rw [hg]; exact Nat.ne_of_lt (blk_lt (g := zy) (o := .cells #[.slice A0_0 l0_0.length c0_0] 45 (0, 0)) (BL zx.out)) : zy ≠ zz)); have n6_ := Aside0.mk ((by rw [hg]; exact Nat.ne_of_gt (blk_lt (g := zy) (o := .cells #[.slice A0_0 l0_0.length c0_0] 45 (0, 0)) (BL zx.out)) : zz ≠ zy)); clear zx; clear HB; have zx := n0_; have HB := n1_; have zA := n2_; have GW230 := n3_; have zE := n4_; have zB := n5_; have zC := n6_; clear n0_ n1_ n2_ n3_ n4_ n5_ n6_; clear hb hbox hg; have zP := zB.out; have zQ := zC.out; have zJ : w6.cell? ⟨zy, 0, none⟩ = some (.slice A0_0 l0_0.length c0_0) := (ze zx.out 0).trans rfl; have zK := zc zx.out 0; have zL : w6.cell? ⟨zz, 0, none⟩ = some (.slice A1_0 l1_0.length c1_0) := (ze zA.out 0).trans rfl; have zM := zc zA.out 0) | ((with_reducible refine zk (f := 48) rfl ?_); refine zv (some 9) rfl rfl Tryd.func48 (by kernel_rfl) rfl #[.slice A0_0 l0_0.length c0_0, .slice A1_0 l1_0.length c1_0] rfl (by (try simp only [List.map_toArray, List.map_cons, List.map_nil]); first | done | rfl) ?_; (with_reducible refine (laws_eqNodeS.calls k _ _ l0_0 _ _ l1_0 true _ ?side1 ?side2 ?side3 ?side4 A3.out).mono ?_); (case side1 => repeat (first | exact (Kd.C_below HR0_0.out HB.out) | (with_reducible refine Kd.C_alloc ?_ _) | (with_reducible refine Kd.C_drewN ?_ _) | (with_reducible refine Kd.C_drew ?_))); (case side2 => exact HC0_0.out); (case side3 => repeat (first | exact (Kd.C_below HR1_0.out HB.out) | (with_reducible refine Kd.C_alloc ?_ _) | (with_reducible refine Kd.C_drewN ?_ _) | (with_reducible refine Kd.C_drew ?_))); (case side4 => exact HC1_0.out); rintro e w10 ⟨rfl, hb⟩; refine ⟨_, rfl, ?_⟩; have n0_ := Aside0.mk (zm (g := zy) (o := .cells #[.slice A0_0 l0_0.length c0_0] 45 (0, 0)) (BL zx.out) hb); have n1_ := Aside0.mk (zm (g := zz) (o := .cells #[.slice A1_0 l1_0.length c1_0] 45 (0, 0)) (BL zA.out) hb); have n2_ := Aside0.mk (zi (by exact bl HB.out) hb); clear zx; clear zA; clear HB; have zx := n0_; have zA := n1_; have HB := n2_; clear n0_ n1_ n2_; (try clear hb); (try clear hb2); (try clear hk); (try clear hi)))
  go_ret
  exact ⟨by first | rfl | (simp [errW_none, errW_some] <;> rfl) | (simp [*, errW_none, errW_some] <;> rfl), by repeat (first | (with_reducible first | exact HB.out | apply zg | apply zd | apply zf | refine zj ?_ zD.out | refine zj ?_ zE.out) | exact HB.out)⟩
 ·replace c4 := Bool.eq_false_iff.mpr c4
  subst c4
  have H1 : (some false) = some r := by rw [if_neg (show ¬ (false = true) by decide)] at H; exact H
  clear H
  have H := H1
  clear H1
  obtain rfl := Option.some.inj H
  go_enter Tryd.func22, Tryd.ntmps22
  go_wp2_with (first | ((with_reducible refine zu (N := 2) rfl ?_); refine zs ?hg (N := 2) ?hd (cs := #[.slice A0_0 l0_0.length c0_0]) (t := 45) ?hr ?_; (case hd => rfl); (case hg => rfl); (case hr => first | (go_simp; done) | (go_simp; rfl)); intro zy hg w11 hbox hb; have n0_ := Aside0.mk (zi (by exact bl HB.out) hb); have n1_ := Aside0.mk (hbox); have n2_ := Aside0.mk ((by rw [hg]; exact (zh (by exact bl HB.out)) : w.heap.size ≤ zy)); have n3_ := Aside0.mk ((by rw [hg]; exact (zh (by exact bl HB.out)) : w.heap.size ≤ zy)); clear HB; have HB := n0_; have zx := n1_; have GW229 := n2_; have zD := n3_; clear n0_ n1_ n2_ n3_; clear hb hbox hg) | ((with_reducible refine zu (N := 3) rfl ?_); refine zs ?hg (N := 3) ?hd (cs := #[.slice A1_0 l1_0.length c1_0]) (t := 45) ?hr ?_; (case hd => rfl); (case hg => rfl); (case hr => first | (go_simp; done) | (go_simp; rfl)); intro zz hg w12 hbox hb; have n0_ := Aside0.mk (zm (g := zy) (o := .cells #[.slice A0_0 l0_0.length c0_0] 45 (0, 0)) (BL zx.out) hb); have n1_ := Aside0.mk (zi (by exact bl HB.out) hb); have n2_ := Aside0.mk (hbox); have n3_ := Aside0.mk ((by rw [hg]; exact (zh (by exact bl HB.out)) : w.heap.size ≤ zz)); have n4_ := Aside0.mk ((by rw [hg]; exact (zh (by exact bl HB.out)) : w.heap.size ≤ zz)); have n5_ := Aside0.mk ((by rw [hg]; exact Nat.ne_of_lt (blk_lt (g := zy) (o := .cells #[.slice A0_0 l0_0.length c0_0] 45 (0, 0)) (BL zx.out)) : zy ≠ zz)); have n6_ := Aside0.mk ((by rw [hg]; exact Nat.ne_of_gt (blk_lt (g := zy) (o := .cells #[.slice A0_0 l0_0.length c0_0] 45 (0, 0)) (BL zx.out)) : zz ≠ zy)); clear zx; clear HB; have zx := n0_; have HB := n1_; have zA := n2_; have GW230 := n3_; have zE := n4_; have zB := n5_; have zC := n6_; clear n0_ n1_ n2_ n3_ n4_ n5_ n6_; clear hb hbox hg; have zN := zB.out; have zO := zC.out; have zF : w12.cell? ⟨zy, 0, none⟩ = some (.slice A0_0 l0_0.length c0_0) := (ze zx.out 0).trans rfl; have zG := zc zx.out 0; have zH : w12.cell? ⟨zz, 0, none⟩ = some (.slice A1_0 l1_0.length c1_0) := (ze zA.out 0).trans rfl; have zI := zc zA.out 0) | ((with_reducible refine zk (f := 48) rfl ?_); refine zv (some 9) rfl rfl Tryd.func48 (by kernel_rfl) rfl #[.slice A0_0 l0_0.length c0_0, .slice A1_0 l1_0.length c1_0] rfl (by (try simp only [List.map_toArray, List.map_cons, List.map_nil]); first | done | rfl) ?_; (with_reducible refine (laws_eqNodeS.calls k _ _ l0_0 _ _ l1_0 false _ ?side1 ?side2 ?side3 ?side4 A3.out).mono ?_); (case side1 => repeat (first | exact (Kd.C_below HR0_0.out HB.out) | (with_reducible refine Kd.C_alloc ?_ _) | (with_reducible refine Kd.C_drewN ?_ _) | (with_reducible refine Kd.C_drew ?_))); (case side2 => exact HC0_0.out); (case side3 => repeat (first | exact (Kd.C_below HR1_0.out HB.out) | (with_reducible refine Kd.C_alloc ?_ _) | (with_reducible refine Kd.C_drewN ?_ _) | (with_reducible refine Kd.C_drew ?_))); (case side4 => exact HC1_0.out); rintro e w16 ⟨rfl, hb⟩; refine ⟨_, rfl, ?_⟩; have n0_ := Aside0.mk (zm (g := zy) (o := .cells #[.slice A0_0 l0_0.length c0_0] 45 (0, 0)) (BL zx.out) hb); have n1_ := Aside0.mk (zm (g := zz) (o := .cells #[.slice A1_0 l1_0.length c1_0] 45 (0, 0)) (BL zA.out) hb); have n2_ := Aside0.mk (zi (by exact bl HB.out) hb); clear zx; clear zA; clear HB; have zx := n0_; have zA := n1_; have HB := n2_; clear n0_ n1_ n2_; (try clear hb); (try clear hb2); (try clear hk); (try clear hi)))
  go_ret
  exact ⟨by first | rfl | (simp [errW_none, errW_some] <;> rfl) | (simp [*, errW_none, errW_some] <;> rfl), by repeat (first | (with_reducible first | exact HB.out | apply zg | apply zd | apply zf | refine zj ?_ zD.out | refine zj ?_ zE.out) | exact HB.out)⟩

def laws_markText.l0 : Nat → Int → ByteArray → Option (ByteArray)
 | 0, _, _ => none
 | k + 1, x0, x3 => if x0 > 0 then ((some (([(wrap64 (48 + (Int.tmod x0 10))) % 256] : List Int) : List Int)).bind fun y232 => (if (strOfNums y232).size + x3.size ≤ 9223372036854775807 then (laws_markText.l0 k (wrap64 (Int.tdiv x0 10)) ((strOfNums y232) ++ x3)) else (none))) else (if 1 + x3.size ≤ 9223372036854775807 then (some ((⟨#[109]⟩ : ByteArray) ++ x3)) else (none))
def laws_markText.f (k : Nat) (a0 : Int) : Option (ByteArray) := if a0 ≤ 0 then (some (⟨#[109, 48]⟩ : ByteArray)) else (laws_markText.l0 k a0 (⟨#[]⟩ : ByteArray))
theorem laws_markText.mono_l : ∀ k, (∀ y0 y1, LeO (laws_markText.l0 k y0 y1) (laws_markText.l0 (k + 1) y0 y1))
 | 0 => fun _ _ r h => by simp [laws_markText.l0] at h
 | k + 1 => by
  have ih0 := laws_markText.mono_l k
  ·intro y0 y1
   unfold laws_markText.l0
   repeat' first
   | (with_reducible exact ih0 _ _)
   | (with_reducible exact LeO.refl _)
   | (with_reducible exact LeO.none _)
   | (with_reducible refine LeO.ite ?_ ?_)
   | (with_reducible refine LeO.bind ?_ (fun _ => ?_))
   | exact ih0 _ _
   | exact LeO.none _
   | refine LeO.ite ?_ ?_
   | refine LeO.bind ?_ (fun _ => ?_)
theorem laws_markText.mono : ∀ a0 k, LeO (laws_markText.f k a0) (laws_markText.f (k + 1) a0) := by
 intro a0 k
 have ih0 := laws_markText.mono_l k
 unfold laws_markText.f
 repeat' first
   | (with_reducible exact ih0 _ _)
   | (with_reducible exact LeO.refl _)
   | (with_reducible exact LeO.none _)
   | (with_reducible refine LeO.ite ?_ ?_)
   | (with_reducible refine LeO.bind ?_ (fun _ => ?_))
   | exact ih0 _ _
   | exact LeO.none _
   | refine LeO.ite ?_ ?_
   | refine LeO.bind ?_ (fun _ => ?_)
set_option maxHeartbeats 8000000 in
set_option maxRecDepth 100000 in
theorem laws_markText.calls (k : Nat) (a0 : Int) (r : ByteArray) (w : World) (h : laws_markText.f k a0 = some r) :
  Calls Tryd.prog 50 #[.int .i64 a0] w fun e w' => e = .returned (.string r) ∧ Below w.heap.size w w' := by
 have HB := Aside0.mk (Below.refl w.heap.size w)
 have H : (if a0 ≤ 0 then (some (⟨#[109, 48]⟩ : ByteArray)) else (laws_markText.l0 k a0 (⟨#[]⟩ : ByteArray))) = some r := h
 clear h
 by_cases c2 : a0 ≤ 0
 ·rw [if_pos c2] at H
  have c2b0 : decide (a0 ≤ 0) = true := decide_eq_true c2
  clear c2
  obtain rfl := Option.some.inj H
  go_enter Tryd.func50, Tryd.ntmps50
  go_wp2
  go_ret
  exact ⟨by first | rfl | (simp [errW_none, errW_some] <;> rfl) | (simp [*, errW_none, errW_some] <;> rfl), by repeat (first | (with_reducible first | exact HB.out | apply zg | apply zd | apply zf) | exact HB.out)⟩
 ·rw [if_neg c2] at H
  have c2b0 : decide (a0 ≤ 0) = false := decide_eq_false c2
  clear c2
  have H' := Aside0.mk H
  clear H
  go_enter Tryd.func50, Tryd.ntmps50
  go_wp2
  go_loopg [0, 3] k (fun kq v0 v3 w' => ∃ (x0_1 : Int) (x3_1 : ByteArray), v0 = .int .i64 x0_1 ∧ v3 = .string x3_1 ∧ Aside0 (laws_markText.l0 kq x0_1 x3_1 = some r) ∧ Aside0 (kq ≤ k) ∧ Aside0 (Below w.heap.size w w'))
  case atStart => exact ⟨(a0), ((⟨#[]⟩ : ByteArray)), (by first | rfl | (simp; done) | (simp [*]; done)), (by first | rfl | (simp; done) | (simp [*]; done)), H', ⟨Nat.le_refl _⟩, ⟨by repeat (first | (with_reducible first | exact HB.out | apply zg | apply zd | apply zf) | exact HB.out)⟩⟩
  case round =>
   clear H'
   try clear c2
   try clear c2b0
   try clear p2
   obtain ⟨x0_1, x3_1, rfl, rfl, HA, HK1, HB⟩ := hrel
   cases gk with
   | zero => exact absurd HA.out (by simp [laws_markText.l0])
   | succ k1 =>
    have H := HA.out
    clear HA
    simp only [laws_markText.l0] at H
    by_cases c3 : x0_1 > 0
    ·rw [if_pos c3] at H
     have c3b0 : decide (0 < x0_1) = true := decide_eq_true c3
     clear c3
     obtain ⟨y232, hy232⟩ : ∃ y_ : List Int, y_ = (([(wrap64 (48 + (Int.tmod x0_1 10))) % 256] : List Int)) := ⟨_, rfl⟩
     replace H : (if (strOfNums y232).size + x3_1.size ≤ 9223372036854775807 then (laws_markText.l0 k1 (wrap64 (Int.tdiv x0_1 10)) ((strOfNums y232) ++ x3_1)) else (none)) = some r := by first | (rw [hy232]; with_reducible exact H) | (have H2_ := (Option.bind_some _ _).symm.trans H; rw [hy232]; with_reducible exact H2_) | (have H2_ := (Option.bind_some _ _).symm.trans H; with_reducible exact H2_) | with_reducible exact H | (rw [hy232]; exact H) | exact H
     have Ny232 := Aside0.mk hy232
     clear hy232
     by_cases c4 : (strOfNums y232).size + x3_1.size ≤ 9223372036854775807
     ·rw [if_pos c4] at H
      have c4b0 := eq_true c4
      have c4b1 : decide ((strOfNums y232).size + x3_1.size ≤ 9223372036854775807) = true := decide_eq_true c4
      try have c4b2 : (9223372036854775807 < (strOfNums y232).size + x3_1.size) = False := eq_false (Nat.not_lt.2 c4)
      have H' := Aside0.mk H
      clear H
      go_wp2_with (first | ((with_reducible refine zu (N := 12) rfl ?_); refine Kd.R_lit (Kd.int .u8) _ 5 ?hg (N := 12) ?hd (xs := ([(wrap64 (48 + (Int.tmod x0_1 10))) % 256] : List Int)) (inner := [.int .u8 ((wrap64 (48 + (Int.tmod x0_1 10))) % 256)]) (ok := fun _ => True) (okp := fun _ => True) ?hr ?hp (fun _ hk => hk) trivial (Below.refl _ _) (Nat.le_refl _) (by simp) ?_; (case hd => rfl); (case hg => rfl); (case hr => first | (go_simp; done) | (go_simp; rfl)); (case hp => exact (Reps.one (show Kd.M (Kd.int .u8) _ _ _ ((wrap64 (48 + (Int.tmod x0_1 10))) % 256) [.int .u8 ((wrap64 (48 + (Int.tmod x0_1 10))) % 256)] from rfl) (Reps.none _ _))); intro v233 w5 zx hb hg_ hnew_; clear hg_ hnew_; (first | rw [← Ny232.out] at zx | (simp only [Int.reduceToNat] at zx; rw [← Ny232.out] at zx)); have n0_ := Aside0.mk (Kd.R_lower zx (zh (by exact bl HB.out))); have n1_ := Aside0.mk (zi (by exact bl HB.out) hb); clear HB; have zy := n0_; have HB := n1_; clear n0_ n1_; clear hb zx; have hcv7 := own_string (P := Tryd.prog) Tryd.underlying22 Tryd.underlying5 Tryd.underlying9 (Kd.own_of_R zy.out)))
      go_roundg k1
      case measure => have := HK1.out; omega
      case rel => exact ⟨(wrap64 (Int.tdiv x0_1 10)), ((strOfNums y232) ++ x3_1), (by first | rfl | (simp; done) | (simp [*]; done)), (by first | rfl | (simp; done) | (simp [*]; done)), H', ⟨by have := HK1.out; omega⟩, ⟨by repeat (first | (with_reducible first | exact HB.out | apply zg | apply zd | apply zf) | exact HB.out)⟩⟩
     ·rw [if_neg c4] at H
      exact absurd H (by simp)
    ·rw [if_neg c3] at H
     have c3b0 : decide (0 < x0_1) = false := decide_eq_false c3
     clear c3
     by_cases c8 : 1 + x3_1.size ≤ 9223372036854775807
     ·rw [if_pos c8] at H
      have c8b0 := eq_true c8
      have c8b1 : decide (1 + x3_1.size ≤ 9223372036854775807) = true := decide_eq_true c8
      try have c8b2 : (9223372036854775807 < 1 + x3_1.size) = False := eq_false (Nat.not_lt.2 c8)
      obtain rfl := Option.some.inj H
      go_wp2
      go_ret
      exact ⟨by first | rfl | (simp [errW_none, errW_some] <;> rfl) | (simp [*, errW_none, errW_some] <;> rfl), by repeat (first | (with_reducible first | exact HB.out | apply zg | apply zd | apply zf) | exact HB.out)⟩
     ·rw [if_neg c8] at H
      exact absurd H (by simp)

end Go.Proofs.YtejecjjimggjeaaDoor.GFnExactChildren
