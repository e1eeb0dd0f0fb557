/- Written by give.py, a program of this session, that runs the kit's print and lays contracts proved by hand beside it. -/
import Derived.Test.YtfiojiokmkiflaaDoorGFnExactParseLinex0
import Derived.Test.YtfiojiokmkiflaaDoorHStep
import Derived.Test.YtfiojiokmkiflaaDoorGFnExactParseLinex3
import Derived.Test.YtfiojiokmkiflaaDoorGFnExactParseLinex4
import Derived.Test.YtfiojiokmkiflaaDoorGFnExactParseLinex5
namespace Go.Proofs.YtfiojiokmkiflaaDoor.GFnExactParseLine
open Go.Proofs.YtfiojiokmkiflaaDoorH (pu po ta pt ps p0 p1 bfin)
open Go.RowKit Go.Proofs.YtfiojiokmkiflaaDoorW.PrintWords Go.Proofs.YtfiojiokmkiflaaDoorW.PrintLast Go.Proofs.YtfiojiokmkiflaaDoorW.PrintMore
attribute [local go_sem] max2_int min2_int max_two min_two max_three min_three max_four min_four
attribute [local go_sem high] Go.Proofs.YtfiojiokmkiflaaDoorH.str_leq Go.Proofs.YtfiojiokmkiflaaDoorH.str_geq Go.Proofs.YtfiojiokmkiflaaDoorH.str_gtr   -- for this text's walks alone
set_option linter.unusedVariables false
set_option linter.unusedSimpArgs false

def laws_eqInt64S.l0 : Nat → List Int → List Int → Int → Option (Bool)
 | 0, _, _, _ => none
 | k + 1, x0, x1, x5 => if x5 < (x0.length : Int) then (if 0 ≤ x5 then (if x5 < (x1.length : Int) then (if (rd x0 x5) = (rd x1 x5) then (laws_eqInt64S.l0 k x0 x1 (wrap64 (x5 + 1))) else none) else (none)) else (none)) else (some true)
def laws_eqInt64S.f (k : Nat) (l0 : List Int) (l1 : List Int) : Option (Bool) := if (l0.length : Int) = (l1.length : Int) then (laws_eqInt64S.l0 k l0 l1 0) else none
theorem laws_eqInt64S.mono_l : ∀ k, (∀ y0 y1 y2, LeO (laws_eqInt64S.l0 k y0 y1 y2) (laws_eqInt64S.l0 (k + 1) y0 y1 y2))
 | 0 => fun _ _ _ r h => by simp [laws_eqInt64S.l0] at h
 | k + 1 => by
  have ih0 := laws_eqInt64S.mono_l k
  ·intro y0 y1 y2
   unfold laws_eqInt64S.l0
   repeat' first
   | (with_reducible exact ih0 _ _ _)
   | (with_reducible exact LeO.refl _)
   | (with_reducible exact LeO.none _)
   | (with_reducible refine LeO.ite ?_ ?_)
   | (with_reducible refine LeO.bind ?_ (fun _ => ?_))
   | exact ih0 _ _ _
   | exact LeO.none _
   | refine LeO.ite ?_ ?_
   | refine LeO.bind ?_ (fun _ => ?_)
theorem laws_eqInt64S.mono : ∀ a0 a1 k, LeO (laws_eqInt64S.f k a0 a1) (laws_eqInt64S.f (k + 1) a0 a1) := by
 intro a0 a1 k
 have ih0 := laws_eqInt64S.mono_l k
 unfold laws_eqInt64S.f
 repeat' first
   | (with_reducible exact ih0 _ _ _)
   | (with_reducible exact LeO.refl _)
   | (with_reducible exact LeO.none _)
   | (with_reducible refine LeO.ite ?_ ?_)
   | (with_reducible refine LeO.bind ?_ (fun _ => ?_))
   | exact ih0 _ _ _
   | exact LeO.none _
   | refine LeO.ite ?_ ?_
   | refine LeO.bind ?_ (fun _ => ?_)
set_option maxHeartbeats 8000000 in
set_option maxRecDepth 100000 in
theorem laws_eqInt64S.calls (k : Nat) (A0 : Option Addr) (c0 : Nat) (l0 : List Int) (A1 : Option Addr) (c1 : Nat) (l1 : List Int) (r : Bool) (w : World) (hr0 : Kd.C (Kd.int .i64) w A0 l0.length l0) (hc0 : l0.length ≤ c0) (hr1 : Kd.C (Kd.int .i64) w A1 l1.length l1) (hc1 : l1.length ≤ c1) (h : laws_eqInt64S.f k l0 l1 = some r) :
  Calls Tryd.prog 80 #[.slice A0 l0.length c0, .slice A1 l1.length c1] w fun e w' => e = .returned (.bool r) ∧ Drawn0 w w' := by
 have HR0 := Aside0.mk hr0
 have HC0 := Aside0.mk hc0
 clear hr0 hc0
 have HR1 := Aside0.mk hr1
 have HC1 := Aside0.mk hc1
 clear hr1 hc1
 have H : (if (l0.length : Int) = (l1.length : Int) then (laws_eqInt64S.l0 k l0 l1 0) else none) = some r := h
 clear h
 by_cases c3 : (l0.length : Int) = (l1.length : Int)
 ·rw [if_pos c3] at H
  have c3b0 : ((l0.length : Int) == (l1.length : Int)) = true := beq_iff_eq.mpr c3
  have c3b1 : ((l0.length : Int) != (l1.length : Int)) = false := bne_eq_false_iff_eq.mpr c3
  have c3b2 : (l0.length == l1.length) = true := by first | simpa using c3 | (simp at c3 ⊢; omega)
  clear c3
  have H' := Aside0.mk H
  clear H
  go_enter Tryd.func80, Tryd.ntmps80
  go_wp2
  repeat (go_quiet (fail); try go_wp2)
  go_loopg [5] k (fun kq v5 w' => ∃ (x5_1 : Int), v5 = .int .i64 x5_1 ∧ Aside0 (laws_eqInt64S.l0 kq l0 l1 x5_1 = some r) ∧ Aside0 (kq ≤ k) ∧ Drawn0 w w')
  case atStart => exact ⟨(0), (by first | rfl | (simp [*]; done)), H', ⟨Nat.le_refl _⟩, by repeat (first | exact Drawn0.refl _ | apply Drawn0.step)⟩
  case round =>
   clear H'
   try clear c1
   try clear p2
   try clear c3
   try clear c3b0
   try clear c3b1
   try clear c3b2
   obtain ⟨x5_1, rfl, HA, HK1, ⟨m1, rfl⟩⟩ := hrel
   cases gk with
   | zero => exact absurd HA.out (by simp [laws_eqInt64S.l0])
   | succ k1 =>
    have H := HA.out
    clear HA
    simp only [laws_eqInt64S.l0] at H
    by_cases c4 : x5_1 < (l0.length : Int)
    ·rw [if_pos c4] at H
     have c4b0 : decide (x5_1 < (l0.length : Int)) = true := decide_eq_true c4
     clear c4
     by_cases c5 : 0 ≤ x5_1
     ·rw [if_pos c5] at H
      have c5b0 : decide (0 ≤ x5_1) = true := decide_eq_true c5
      clear c5
      by_cases c6 : x5_1 < (l1.length : Int)
      ·rw [if_pos c6] at H
       have c6b0 : decide (x5_1 < (l1.length : Int)) = true := decide_eq_true c6
       clear c6
       by_cases c7 : (rd l0 x5_1) = (rd l1 x5_1)
       ·rw [if_pos c7] at H
        have c7b0 : ((rd l0 x5_1) == (rd l1 x5_1)) = true := beq_iff_eq.mpr c7
        have c7b1 : ((rd l0 x5_1) != (rd l1 x5_1)) = false := bne_eq_false_iff_eq.mpr c7
        clear c7
        have H' := Aside0.mk H
        clear H
        have p330 : 0 ≤ (x5_1 : Int) := of_decide_eq_true (by with_reducible assumption)
        have q330 : x5_1 < (l0.length : Int) := of_decide_eq_true (by with_reducible assumption)
        obtain ⟨ad330, e330, hx330_0⟩ := Kd.at_int HR0.out x5_1 p330 q330
        cases e330
        replace p330 := eq_true p330
        replace q330 := eq_true q330
        have p331 : 0 ≤ (x5_1 : Int) := of_decide_eq_true (by with_reducible assumption)
        have q331 : x5_1 < (l1.length : Int) := of_decide_eq_true (by with_reducible assumption)
        obtain ⟨ad331, e331, hx331_0⟩ := Kd.at_int HR1.out x5_1 p331 q331
        cases e331
        replace p331 := eq_true p331
        replace q331 := eq_true q331
        go_wp2
        repeat (go_quiet (fail); try go_wp2)
        go_roundg k1
        case measure => have := HK1.out; omega
        case rel => exact ⟨(wrap64 (x5_1 + 1)), (by first | rfl | (simp [*]; done)), H', ⟨by have := HK1.out; omega⟩, by repeat (first | exact Drawn0.refl _ | apply Drawn0.step)⟩
       ·rw [if_neg c7] at H
        have c7b0 : ((rd l0 x5_1) == (rd l1 x5_1)) = false := beq_eq_false_iff_ne.mpr c7
        have c7b1 : ((rd l0 x5_1) != (rd l1 x5_1)) = true := bne_iff_ne.mpr c7
        exact absurd H (by simp)
      ·rw [if_neg c6] at H
       exact absurd H (by simp)
     ·rw [if_neg c5] at H
      exact absurd H (by simp)
    ·rw [if_neg c4] at H
     have c4b0 : decide (x5_1 < (l0.length : Int)) = false := decide_eq_false c4
     clear c4
     obtain rfl := Option.some.inj H
     go_wp2
     repeat (go_quiet (fail); try go_wp2)
     go_ret
     exact ⟨by first | rfl | (simp; done) | (simp [*]; done), by repeat (first | exact Drawn0.refl _ | apply Drawn0.step)⟩
 ·rw [if_neg c3] at H
  have c3b0 : ((l0.length : Int) == (l1.length : Int)) = false := beq_eq_false_iff_ne.mpr c3
  have c3b1 : ((l0.length : Int) != (l1.length : Int)) = true := bne_iff_ne.mpr c3
  have c3b2 : (l0.length == l1.length) = false := by first | simpa using c3 | (simp at c3 ⊢; omega)
  exact absurd H (by simp)
def laws_eqLine.f (k : Nat) (a0_0 : Int) (l0_1 : List (S124)) (a0_2 : Bool) (a0_3 : ByteArray) (l0_4 : List Int) (a1_0 : Int) (l1_1 : List (S124)) (a1_2 : Bool) (a1_3 : ByteArray) (l1_4 : List Int) : Option (Bool) := if a0_0 = a1_0 then ((laws_eqRequest.f k l0_1 l1_1).bind fun t334 => (if t334 = true then (if (a0_2 != a1_2) = true then none else (if a0_3.toList = a1_3.toList then ((laws_eqInt64S.f k l0_4 l1_4).bind fun t335 => (if t335 = true then (some true) else none)) else none)) else none)) else none
theorem laws_eqLine.mono : ∀ a0 a1 a2 a3 a4 a5 a6 a7 a8 a9 k, LeO (laws_eqLine.f k a0 a1 a2 a3 a4 a5 a6 a7 a8 a9) (laws_eqLine.f (k + 1) a0 a1 a2 a3 a4 a5 a6 a7 a8 a9) := by
 intro a0 a1 a2 a3 a4 a5 a6 a7 a8 a9 k
 unfold laws_eqLine.f
 repeat' first
   | (with_reducible exact laws_eqInt64S.mono _ _ _)
   | (with_reducible exact laws_eqRequest.mono _ _ _)
   | (with_reducible exact LeO.refl _)
   | (with_reducible exact LeO.none _)
   | (with_reducible refine LeO.ite ?_ ?_)
   | (with_reducible refine LeO.bind ?_ (fun _ => ?_))
   | exact laws_eqInt64S.mono _ _ _
   | exact laws_eqRequest.mono _ _ _
   | exact LeO.none _
   | refine LeO.ite ?_ ?_
   | refine LeO.bind ?_ (fun _ => ?_)
set_option maxHeartbeats 8000000 in
set_option maxRecDepth 100000 in
theorem laws_eqLine.calls (k : Nat) (a0_0 : Int) (A0_1 : Option Addr) (c0_1 : Nat) (l0_1 : List (S124)) (a0_2 : Bool) (a0_3 : ByteArray) (A0_4 : Option Addr) (c0_4 : Nat) (l0_4 : List Int) (a1_0 : Int) (A1_1 : Option Addr) (c1_1 : Nat) (l1_1 : List (S124)) (a1_2 : Bool) (a1_3 : ByteArray) (A1_4 : Option Addr) (c1_4 : Nat) (l1_4 : List Int) (r : Bool) (w : World) (hr0_1 : Kd.C k124 w A0_1 l0_1.length l0_1) (hc0_1 : l0_1.length ≤ c0_1) (hr0_4 : Kd.C (Kd.int .i64) w A0_4 l0_4.length l0_4) (hc0_4 : l0_4.length ≤ c0_4) (hr1_1 : Kd.C k124 w A1_1 l1_1.length l1_1) (hc1_1 : l1_1.length ≤ c1_1) (hr1_4 : Kd.C (Kd.int .i64) w A1_4 l1_4.length l1_4) (hc1_4 : l1_4.length ≤ c1_4) (h : laws_eqLine.f k a0_0 l0_1 a0_2 a0_3 l0_4 a1_0 l1_1 a1_2 a1_3 l1_4 = some r) :
  Calls Tryd.prog 30 #[.agg #[.int .i64 a0_0, .slice A0_1 l0_1.length c0_1, .bool a0_2, .string a0_3, .slice A0_4 l0_4.length c0_4], .agg #[.int .i64 a1_0, .slice A1_1 l1_1.length c1_1, .bool a1_2, .string a1_3, .slice A1_4 l1_4.length c1_4]] w fun e w' => e = .returned (.bool r) ∧ Below w.heap.size w w' := by
 have hu66 := Tryd.underlying66
 have hu63 := Tryd.underlying63
 have HR0_1 := Aside0.mk hr0_1
 have HC0_1 := Aside0.mk hc0_1
 clear hr0_1 hc0_1
 have HR0_4 := Aside0.mk hr0_4
 have HC0_4 := Aside0.mk hc0_4
 clear hr0_4 hc0_4
 have HR1_1 := Aside0.mk hr1_1
 have HC1_1 := Aside0.mk hc1_1
 clear hr1_1 hc1_1
 have HR1_4 := Aside0.mk hr1_4
 have HC1_4 := Aside0.mk hc1_4
 clear hr1_4 hc1_4
 have HB := Aside0.mk (Below.refl w.heap.size w)
 have H : (if a0_0 = a1_0 then ((laws_eqRequest.f k l0_1 l1_1).bind fun t334 => (if t334 = true then (if (a0_2 != a1_2) = true then none else (if a0_3.toList = a1_3.toList then ((laws_eqInt64S.f k l0_4 l1_4).bind fun t335 => (if t335 = true then (some true) else none)) else none)) else none)) else none) = some r := h
 clear h
 by_cases c3 : a0_0 = a1_0
 ·rw [if_pos c3] at H
  have c3b0 : (a0_0 == a1_0) = true := beq_iff_eq.mpr c3
  have c3b1 : (a0_0 != a1_0) = false := bne_eq_false_iff_eq.mpr c3
  clear c3
  replace H := Option.bind_eq_some_iff.mp H
  obtain ⟨t334, A40, H⟩ := H
  try dsimp only at H
  have A4 := Aside0.mk A40
  clear A40
  by_cases c5 : t334 = true
  ·subst c5
   rw [if_pos rfl] at H
   by_cases c6 : (a0_2 != a1_2) = true
   ·rw [if_pos c6] at H
    have c6b0 : (a0_2 != a1_2) = true := c6
    (try (have c6b1 : decide (a0_2 = a1_2) = false := by simpa using c6))
    (try (have c6b2 : (a0_2 == a1_2) = false := by simpa using c6))
    (try (have c6b3 : ¬ (a0_2 = a1_2) := by simpa using c6))
    clear c6
    exact absurd H (by simp)
   ·rw [if_neg c6] at H
    have c6b0 : (a0_2 != a1_2) = false := by simpa using c6
    (try (have c6b1 : decide (a0_2 = a1_2) = true := by simpa using c6))
    (try (have c6b2 : (a0_2 == a1_2) = true := by simpa using c6))
    clear c6
    by_cases c15 : a0_3.toList = a1_3.toList
    ·rw [if_pos c15] at H
     have c15b0 : (a0_3.toList == a1_3.toList) = true := beq_iff_eq.mpr c15
     have c15b1 : (a0_3.toList != a1_3.toList) = false := bne_eq_false_iff_eq.mpr c15
     clear c15
     replace H := Option.bind_eq_some_iff.mp H
     obtain ⟨t335, A160, H⟩ := H
     try dsimp only at H
     have A16 := Aside0.mk A160
     clear A160
     by_cases c17 : t335 = true
     ·subst c17
      rw [if_pos rfl] at H
      obtain rfl := Option.some.inj H
      go_enter Tryd.func30, Tryd.ntmps30
      go_wp2_with (first | ((with_reducible refine zu (N := 2) rfl ?_); refine zz ?hg (N := 2) ?hd (cs := #[.int .i64 a0_0, .slice A0_1 l0_1.length c0_1, .bool a0_2, .string a0_3, .slice A0_4 l0_4.length c0_4]) (t := 66) ?hr ?_; (case hd => rfl); (case hg => rfl); (case hr => first | (go_simp; done) | (go_simp; rfl)); intro zE hg w18 hbox hb; have n0_ := Aside0.mk (zm (by exact bl HB.out) hb); have n1_ := Aside0.mk (hbox); have n2_ := Aside0.mk ((by rw [hg]; exact (zn (by exact bl HB.out)) : w.heap.size ≤ zE)); have n3_ := Aside0.mk ((by rw [hg]; exact (zn (by exact bl HB.out)) : w.heap.size ≤ zE)); clear HB; have HB := n0_; have zC := n1_; have GW332 := n2_; have zI := n3_; clear n0_ n1_ n2_ n3_; clear hb hbox hg) | ((with_reducible refine zu (N := 3) rfl ?_); refine zz ?hg (N := 3) ?hd (cs := #[.int .i64 a1_0, .slice A1_1 l1_1.length c1_1, .bool a1_2, .string a1_3, .slice A1_4 l1_4.length c1_4]) (t := 66) ?hr ?_; (case hd => rfl); (case hg => rfl); (case hr => first | (go_simp; done) | (go_simp; rfl)); intro zF hg w19 hbox hb; have n0_ := Aside0.mk (zp (g := zE) (o := .cells #[.int .i64 a0_0, .slice A0_1 l0_1.length c0_1, .bool a0_2, .string a0_3, .slice A0_4 l0_4.length c0_4] 66 (0, 0)) (BL zC.out) hb); have n1_ := Aside0.mk (zm (by exact bl HB.out) hb); have n2_ := Aside0.mk (hbox); have n3_ := Aside0.mk ((by rw [hg]; exact (zn (by exact bl HB.out)) : w.heap.size ≤ zF)); have n4_ := Aside0.mk ((by rw [hg]; exact (zn (by exact bl HB.out)) : w.heap.size ≤ zF)); have n5_ := Aside0.mk ((by rw [hg]; exact Nat.ne_of_lt (zB (g := zE) (o := .cells #[.int .i64 a0_0, .slice A0_1 l0_1.length c0_1, .bool a0_2, .string a0_3, .slice A0_4 l0_4.length c0_4] 66 (0, 0)) (BL zC.out)) : zE ≠ zF)); have n6_ := Aside0.mk ((by rw [hg]; exact Nat.ne_of_gt (zB (g := zE) (o := .cells #[.int .i64 a0_0, .slice A0_1 l0_1.length c0_1, .bool a0_2, .string a0_3, .slice A0_4 l0_4.length c0_4] 66 (0, 0)) (BL zC.out)) : zF ≠ zE)); clear zC; clear HB; have zC := n0_; have HB := n1_; have zD := n2_; have GW333 := n3_; have zJ := n4_; have zG := n5_; have zH := n6_; clear n0_ n1_ n2_ n3_ n4_ n5_ n6_; clear hb hbox hg; have zyb := zG.out; have zzb := zH.out; have zK : w19.cell? ⟨zE, 0, none⟩ = some (.int .i64 a0_0) := (zc zC.out 0).trans rfl; have zL : w19.cell? ⟨zE, 1, none⟩ = some (.slice A0_1 l0_1.length c0_1) := (zc zC.out 1).trans rfl; have zM : w19.cell? ⟨zE, 2, none⟩ = some (.bool a0_2) := (zc zC.out 2).trans rfl; have zN : w19.cell? ⟨zE, 3, none⟩ = some (.string a0_3) := (zc zC.out 3).trans rfl; have zO : w19.cell? ⟨zE, 4, none⟩ = some (.slice A0_4 l0_4.length c0_4) := (zc zC.out 4).trans rfl; have zP := zb zC.out 0; have zQ := zb zC.out 1; have zR := zb zC.out 2; have zS := zb zC.out 3; have zT := zb zC.out 4; have zU : w19.cell? ⟨zF, 0, none⟩ = some (.int .i64 a1_0) := (zc zD.out 0).trans rfl; have zV : w19.cell? ⟨zF, 1, none⟩ = some (.slice A1_1 l1_1.length c1_1) := (zc zD.out 1).trans rfl; have zW : w19.cell? ⟨zF, 2, none⟩ = some (.bool a1_2) := (zc zD.out 2).trans rfl; have zX : w19.cell? ⟨zF, 3, none⟩ = some (.string a1_3) := (zc zD.out 3).trans rfl; have zY : w19.cell? ⟨zF, 4, none⟩ = some (.slice A1_4 l1_4.length c1_4) := (zc zD.out 4).trans rfl; have zZ := zb zD.out 0; have zab := zb zD.out 1; have zbb := zb zD.out 2; have zcb := zb zD.out 3; have zdb := zb zD.out 4) | ((with_reducible refine zo (f := 79) rfl ?_); refine zy (some 14) rfl rfl Tryd.func79 (by kernel_rfl) rfl #[.agg #[.slice A0_1 l0_1.length c0_1], .agg #[.slice A1_1 l1_1.length c1_1]] rfl (by (try simp only [List.map_toArray, List.map_cons, List.map_nil]); first | done | rfl) ?_; (with_reducible refine (laws_eqRequest.calls k _ _ l0_1 _ _ l1_1 true _ ?side1 ?side2 ?side3 ?side4 A4.out).mono ?_); (case side1 => repeat (first | exact (Kd.C_below HR0_1.out HB.out) | (with_reducible refine Kd.C_alloc ?_ _) | (with_reducible refine Kd.C_drewN ?_ _) | (with_reducible refine Kd.C_drew ?_))); (case side2 => exact HC0_1.out); (case side3 => repeat (first | exact (Kd.C_below HR1_1.out HB.out) | (with_reducible refine Kd.C_alloc ?_ _) | (with_reducible refine Kd.C_drewN ?_ _) | (with_reducible refine Kd.C_drew ?_))); (case side4 => exact HC1_1.out); rintro e w23 ⟨rfl, hb⟩; refine ⟨_, rfl, ?_⟩; have n0_ := Aside0.mk (zp (g := zE) (o := .cells #[.int .i64 a0_0, .slice A0_1 l0_1.length c0_1, .bool a0_2, .string a0_3, .slice A0_4 l0_4.length c0_4] 66 (0, 0)) (BL zC.out) hb); have n1_ := Aside0.mk (zp (g := zF) (o := .cells #[.int .i64 a1_0, .slice A1_1 l1_1.length c1_1, .bool a1_2, .string a1_3, .slice A1_4 l1_4.length c1_4] 66 (0, 0)) (BL zD.out) hb); have n2_ := Aside0.mk (zm (by exact bl HB.out) hb); clear zC; clear zD; clear HB; have zC := n0_; have zD := n1_; have HB := n2_; clear n0_ n1_ n2_; (try clear hb); (try clear hb2); (try clear hk); (try clear hi); have zeb : w23.cell? ⟨zE, 0, none⟩ = some (.int .i64 a0_0) := (zc zC.out 0).trans rfl; have zfb : w23.cell? ⟨zE, 1, none⟩ = some (.slice A0_1 l0_1.length c0_1) := (zc zC.out 1).trans rfl; have zgb : w23.cell? ⟨zE, 2, none⟩ = some (.bool a0_2) := (zc zC.out 2).trans rfl; have zhb : w23.cell? ⟨zE, 3, none⟩ = some (.string a0_3) := (zc zC.out 3).trans rfl; have zib : w23.cell? ⟨zE, 4, none⟩ = some (.slice A0_4 l0_4.length c0_4) := (zc zC.out 4).trans rfl; have zjb := zb zC.out 0; have zkb := zb zC.out 1; have zlb := zb zC.out 2; have zmb := zb zC.out 3; have znb := zb zC.out 4; have zob : w23.cell? ⟨zF, 0, none⟩ = some (.int .i64 a1_0) := (zc zD.out 0).trans rfl; have zpb : w23.cell? ⟨zF, 1, none⟩ = some (.slice A1_1 l1_1.length c1_1) := (zc zD.out 1).trans rfl; have zqb : w23.cell? ⟨zF, 2, none⟩ = some (.bool a1_2) := (zc zD.out 2).trans rfl; have zrb : w23.cell? ⟨zF, 3, none⟩ = some (.string a1_3) := (zc zD.out 3).trans rfl; have zsb : w23.cell? ⟨zF, 4, none⟩ = some (.slice A1_4 l1_4.length c1_4) := (zc zD.out 4).trans rfl; have ztb := zb zD.out 0; have zub := zb zD.out 1; have zvb := zb zD.out 2; have zwb := zb zD.out 3; have zxb := zb zD.out 4) | ((with_reducible refine zo (f := 80) rfl ?_); refine zy (some 30) rfl rfl Tryd.func80 (by kernel_rfl) rfl #[.slice A0_4 l0_4.length c0_4, .slice A1_4 l1_4.length c1_4] rfl (by (try simp only [List.map_toArray, List.map_cons, List.map_nil]); first | done | rfl) ?_; (with_reducible refine (laws_eqInt64S.calls k _ _ l0_4 _ _ l1_4 true _ ?side1 ?side2 ?side3 ?side4 A16.out).mono ?_); (case side1 => repeat (first | exact (Kd.C_below HR0_4.out HB.out) | (with_reducible refine Kd.C_alloc ?_ _) | (with_reducible refine Kd.C_drewN ?_ _) | (with_reducible refine Kd.C_drew ?_))); (case side2 => exact HC0_4.out); (case side3 => repeat (first | exact (Kd.C_below HR1_4.out HB.out) | (with_reducible refine Kd.C_alloc ?_ _) | (with_reducible refine Kd.C_drewN ?_ _) | (with_reducible refine Kd.C_drew ?_))); (case side4 => exact HC1_4.out); rintro e w' ⟨rfl, ⟨nd, rfl⟩⟩; refine ⟨_, rfl, ?_⟩))
      go_ret
      exact ⟨by first | rfl | (simp [*] <;> rfl), by repeat (first | (with_reducible first | exact HB.out | apply zh | apply zd | apply zi | refine zl ?_ zI.out | refine zl ?_ zJ.out) | exact HB.out)⟩
     ·replace c17 := Bool.eq_false_iff.mpr c17
      subst c17
      rw [if_neg (show ¬ (false = true) by decide)] at H
      exact absurd H (by simp)
    ·rw [if_neg c15] at H
     have c15b0 : (a0_3.toList == a1_3.toList) = false := beq_eq_false_iff_ne.mpr c15
     have c15b1 : (a0_3.toList != a1_3.toList) = true := bne_iff_ne.mpr c15
     exact absurd H (by simp)
  ·replace c5 := Bool.eq_false_iff.mpr c5
   subst c5
   rw [if_neg (show ¬ (false = true) by decide)] at H
   exact absurd H (by simp)
 ·rw [if_neg c3] at H
  have c3b0 : (a0_0 == a1_0) = false := beq_eq_false_iff_ne.mpr c3
  have c3b1 : (a0_0 != a1_0) = true := bne_iff_ne.mpr c3
  exact absurd H (by simp)
def laws_eqByteS.l0 : Nat → List Int → List Int → Int → Option (Bool)
 | 0, _, _, _ => none
 | k + 1, x0, x1, x5 => if x5 < (x0.length : Int) then (if 0 ≤ x5 then (if x5 < (x1.length : Int) then (if (rd x0 x5) = (rd x1 x5) then (laws_eqByteS.l0 k x0 x1 (wrap64 (x5 + 1))) else none) else (none)) else (none)) else (some true)
def laws_eqByteS.f (k : Nat) (l0 : List Int) (l1 : List Int) : Option (Bool) := if (l0.length : Int) = (l1.length : Int) then (laws_eqByteS.l0 k l0 l1 0) else none
theorem laws_eqByteS.mono_l : ∀ k, (∀ y0 y1 y2, LeO (laws_eqByteS.l0 k y0 y1 y2) (laws_eqByteS.l0 (k + 1) y0 y1 y2))
 | 0 => fun _ _ _ r h => by simp [laws_eqByteS.l0] at h
 | k + 1 => by
  have ih0 := laws_eqByteS.mono_l k
  ·intro y0 y1 y2
   unfold laws_eqByteS.l0
   repeat' first
   | (with_reducible exact ih0 _ _ _)
   | (with_reducible exact LeO.refl _)
   | (with_reducible exact LeO.none _)
   | (with_reducible refine LeO.ite ?_ ?_)
   | (with_reducible refine LeO.bind ?_ (fun _ => ?_))
   | exact ih0 _ _ _
   | exact LeO.none _
   | refine LeO.ite ?_ ?_
   | refine LeO.bind ?_ (fun _ => ?_)
theorem laws_eqByteS.mono : ∀ a0 a1 k, LeO (laws_eqByteS.f k a0 a1) (laws_eqByteS.f (k + 1) a0 a1) := by
 intro a0 a1 k
 have ih0 := laws_eqByteS.mono_l k
 unfold laws_eqByteS.f
 repeat' first
   | (with_reducible exact ih0 _ _ _)
   | (with_reducible exact LeO.refl _)
   | (with_reducible exact LeO.none _)
   | (with_reducible refine LeO.ite ?_ ?_)
   | (with_reducible refine LeO.bind ?_ (fun _ => ?_))
   | exact ih0 _ _ _
   | exact LeO.none _
   | refine LeO.ite ?_ ?_
   | refine LeO.bind ?_ (fun _ => ?_)
set_option maxHeartbeats 8000000 in
set_option maxRecDepth 100000 in
theorem laws_eqByteS.calls (k : Nat) (A0 : Option Addr) (c0 : Nat) (l0 : List Int) (A1 : Option Addr) (c1 : Nat) (l1 : List Int) (r : Bool) (w : World) (hr0 : Kd.C (Kd.int .u8) w A0 l0.length l0) (hc0 : l0.length ≤ c0) (hr1 : Kd.C (Kd.int .u8) w A1 l1.length l1) (hc1 : l1.length ≤ c1) (h : laws_eqByteS.f k l0 l1 = some r) :
  Calls Tryd.prog 31 #[.slice A0 l0.length c0, .slice A1 l1.length c1] w fun e w' => e = .returned (.bool r) ∧ Drawn0 w w' := by
 have HR0 := Aside0.mk hr0
 have HC0 := Aside0.mk hc0
 clear hr0 hc0
 have HR1 := Aside0.mk hr1
 have HC1 := Aside0.mk hc1
 clear hr1 hc1
 have H : (if (l0.length : Int) = (l1.length : Int) then (laws_eqByteS.l0 k l0 l1 0) else none) = some r := h
 clear h
 by_cases c3 : (l0.length : Int) = (l1.length : Int)
 ·rw [if_pos c3] at H
  have c3b0 : ((l0.length : Int) == (l1.length : Int)) = true := beq_iff_eq.mpr c3
  have c3b1 : ((l0.length : Int) != (l1.length : Int)) = false := bne_eq_false_iff_eq.mpr c3
  have c3b2 : (l0.length == l1.length) = true := by first | simpa using c3 | (simp at c3 ⊢; omega)
  clear c3
  have H' := Aside0.mk H
  clear H
  go_enter Tryd.func31, Tryd.ntmps31
  go_wp2
  repeat (go_quiet (fail); try go_wp2)
  go_loopg [5] k (fun kq v5 w' => ∃ (x5_1 : Int), v5 = .int .i64 x5_1 ∧ Aside0 (laws_eqByteS.l0 kq l0 l1 x5_1 = some r) ∧ Aside0 (kq ≤ k) ∧ Drawn0 w w')
  case atStart => exact ⟨(0), (by first | rfl | (simp [*]; done)), H', ⟨Nat.le_refl _⟩, by repeat (first | exact Drawn0.refl _ | apply Drawn0.step)⟩
  case round =>
   clear H'
   try clear c1
   try clear p2
   try clear c3
   try clear c3b0
   try clear c3b1
   try clear c3b2
   obtain ⟨x5_1, rfl, HA, HK1, ⟨m1, rfl⟩⟩ := hrel
   cases gk with
   | zero => exact absurd HA.out (by simp [laws_eqByteS.l0])
   | succ k1 =>
    have H := HA.out
    clear HA
    simp only [laws_eqByteS.l0] at H
    by_cases c4 : x5_1 < (l0.length : Int)
    ·rw [if_pos c4] at H
     have c4b0 : decide (x5_1 < (l0.length : Int)) = true := decide_eq_true c4
     clear c4
     by_cases c5 : 0 ≤ x5_1
     ·rw [if_pos c5] at H
      have c5b0 : decide (0 ≤ x5_1) = true := decide_eq_true c5
      clear c5
      by_cases c6 : x5_1 < (l1.length : Int)
      ·rw [if_pos c6] at H
       have c6b0 : decide (x5_1 < (l1.length : Int)) = true := decide_eq_true c6
       clear c6
       by_cases c7 : (rd l0 x5_1) = (rd l1 x5_1)
       ·rw [if_pos c7] at H
        have c7b0 : ((rd l0 x5_1) == (rd l1 x5_1)) = true := beq_iff_eq.mpr c7
        have c7b1 : ((rd l0 x5_1) != (rd l1 x5_1)) = false := bne_eq_false_iff_eq.mpr c7
        clear c7
        have H' := Aside0.mk H
        clear H
        have p336 : 0 ≤ (x5_1 : Int) := of_decide_eq_true (by with_reducible assumption)
        have q336 : x5_1 < (l0.length : Int) := of_decide_eq_true (by with_reducible assumption)
        obtain ⟨ad336, e336, hx336_0⟩ := Kd.at_int HR0.out x5_1 p336 q336
        cases e336
        replace p336 := eq_true p336
        replace q336 := eq_true q336
        have p337 : 0 ≤ (x5_1 : Int) := of_decide_eq_true (by with_reducible assumption)
        have q337 : x5_1 < (l1.length : Int) := of_decide_eq_true (by with_reducible assumption)
        obtain ⟨ad337, e337, hx337_0⟩ := Kd.at_int HR1.out x5_1 p337 q337
        cases e337
        replace p337 := eq_true p337
        replace q337 := eq_true q337
        go_wp2
        repeat (go_quiet (fail); try go_wp2)
        go_roundg k1
        case measure => have := HK1.out; omega
        case rel => exact ⟨(wrap64 (x5_1 + 1)), (by first | rfl | (simp [*]; done)), H', ⟨by have := HK1.out; omega⟩, by repeat (first | exact Drawn0.refl _ | apply Drawn0.step)⟩
       ·rw [if_neg c7] at H
        have c7b0 : ((rd l0 x5_1) == (rd l1 x5_1)) = false := beq_eq_false_iff_ne.mpr c7
        have c7b1 : ((rd l0 x5_1) != (rd l1 x5_1)) = true := bne_iff_ne.mpr c7
        exact absurd H (by simp)
      ·rw [if_neg c6] at H
       exact absurd H (by simp)
     ·rw [if_neg c5] at H
      exact absurd H (by simp)
    ·rw [if_neg c4] at H
     have c4b0 : decide (x5_1 < (l0.length : Int)) = false := decide_eq_false c4
     clear c4
     obtain rfl := Option.some.inj H
     go_wp2
     repeat (go_quiet (fail); try go_wp2)
     go_ret
     exact ⟨by first | rfl | (simp; done) | (simp [*]; done), by repeat (first | exact Drawn0.refl _ | apply Drawn0.step)⟩
 ·rw [if_neg c3] at H
  have c3b0 : ((l0.length : Int) == (l1.length : Int)) = false := beq_eq_false_iff_ne.mpr c3
  have c3b1 : ((l0.length : Int) != (l1.length : Int)) = true := bne_iff_ne.mpr c3
  have c3b2 : (l0.length == l1.length) = false := by first | simpa using c3 | (simp at c3 ⊢; omega)
  exact absurd H (by simp)
def laws_markByteS.l0 : Nat → List Int → Int → Int → Option (Int × List Int)
 | 0, _, _, _ => none
 | k + 1, x0, x1, x5 => if x5 < (x0.length : Int) then (if 0 ≤ x5 then (laws_markByteS.l0 k (x0.set (x5 : Int).toNat ((x1) % 256)) (wrap64 (x1 + 1)) (wrap64 (x5 + 1))) else (none)) else (some (x1, x0))
def laws_markByteS.f (k : Nat) (l0 : List Int) (a1 : Int) : Option (Int × List Int) := laws_markByteS.l0 k l0 a1 0
theorem laws_markByteS.mono_l : ∀ k, (∀ y0 y1 y2, LeO (laws_markByteS.l0 k y0 y1 y2) (laws_markByteS.l0 (k + 1) y0 y1 y2))
 | 0 => fun _ _ _ r h => by simp [laws_markByteS.l0] at h
 | k + 1 => by
  have ih0 := laws_markByteS.mono_l k
  ·intro y0 y1 y2
   unfold laws_markByteS.l0
   repeat' first
   | (with_reducible exact ih0 _ _ _)
   | (with_reducible exact LeO.refl _)
   | (with_reducible exact LeO.none _)
   | (with_reducible refine LeO.ite ?_ ?_)
   | (with_reducible refine LeO.bind ?_ (fun _ => ?_))
   | exact ih0 _ _ _
   | exact LeO.none _
   | refine LeO.ite ?_ ?_
   | refine LeO.bind ?_ (fun _ => ?_)
theorem laws_markByteS.mono : ∀ a0 a1 k, LeO (laws_markByteS.f k a0 a1) (laws_markByteS.f (k + 1) a0 a1) := by
 intro a0 a1 k
 have ih0 := laws_markByteS.mono_l k
 unfold laws_markByteS.f
 repeat' first
   | (with_reducible exact ih0 _ _ _)
   | (with_reducible exact LeO.refl _)
   | (with_reducible exact LeO.none _)
   | (with_reducible refine LeO.ite ?_ ?_)
   | (with_reducible refine LeO.bind ?_ (fun _ => ?_))
   | exact ih0 _ _ _
   | exact LeO.none _
   | refine LeO.ite ?_ ?_
   | refine LeO.bind ?_ (fun _ => ?_)
set_option maxHeartbeats 8000000 in
set_option maxRecDepth 100000 in
theorem laws_markByteS.calls (k : Nat) (P0_ : Nat → Prop) (u9000_ : Value) (l0 : List Int) (a1 : Int) (r1 : Int) (r2 : List Int) (w0 w : World) (hB : Below w0.heap.size w0 w) (zE : Kd.R (Kd.int .u8) 5 w w0.heap.size P0_ u9000_ l0) (h : laws_markByteS.f k l0 a1 = some (r1, r2)) :
  Calls Tryd.prog 32 #[u9000_, .int .i64 a1] w fun e w' => e = .returned (.int .i64 r1) ∧ Kd.R (Kd.int .u8) 5 w' w0.heap.size (fun k_ => (P0_ k_ ∨ w.heap.size ≤ k_)) u9000_ r2 ∧ Below w0.heap.size w0 w' ∧ Kept w w' (fun k_ => P0_ k_) := by
 have zF := Aside0.mk (show Kd.R (Kd.int .u8) 5 w w0.heap.size (fun k_ => (P0_ k_ ∨ w.heap.size ≤ k_)) u9000_ l0 from Kd.R_mono zE (fun k_ hk => (.inl hk)))
 have HK := Aside0.mk (Kept.refl w (fun k_ => P0_ k_))
 have HW0 := Aside0.mk hB.size
 have HB := Aside0.mk hB
 clear hB
 have H : (laws_markByteS.l0 k l0 a1 0) = some (r1, r2) := h
 clear h
 have H' := Aside0.mk H
 clear H
 go_enter Tryd.func32, Tryd.ntmps32
 go_wp2
 go_loopg [1, 5] k (fun kq v1 v5 w' => ∃ (x0_1 : List Int) (x1_1 : Int) (x5_1 : Int), v1 = .int .i64 x1_1 ∧ v5 = .int .i64 x5_1 ∧ Aside0 (laws_markByteS.l0 kq x0_1 x1_1 x5_1 = some (r1, r2)) ∧ Aside0 (kq ≤ k) ∧ Aside0 (Kd.R (Kd.int .u8) 5 w' w0.heap.size (fun k_ => (P0_ k_ ∨ w.heap.size ≤ k_)) u9000_ x0_1) ∧ Aside0 (Kept w w' (fun k_ => P0_ k_)) ∧ Aside0 (Below w0.heap.size w0 w'))
 case atStart => exact ⟨(l0), (a1), (0), (by first | rfl | (simp [*]; done)), (by first | rfl | (simp [*]; done)), H', ⟨Nat.le_refl _⟩, ⟨RL zF.out⟩, ⟨by repeat (first | (with_reducible first | exact HK.out | apply Kept.alloc | apply Kept.drewN | apply Kept.drew) | exact HK.out)⟩, ⟨by repeat (first | (with_reducible first | exact HB.out | apply zh | apply zd | apply zi) | exact HB.out)⟩⟩
 case round =>
  clear H'
  try clear p2
  obtain ⟨x0_1, x1_1, x5_1, rfl, rfl, HA, HK1, zC, HK, HB⟩ := hrel
  cases gk with
  | zero => exact absurd HA.out (by simp [laws_markByteS.l0])
  | succ k1 =>
   have H := HA.out
   clear HA
   simp only [laws_markByteS.l0] at H
   by_cases c3 : x5_1 < (x0_1.length : Int)
   ·rw [if_pos c3] at H
    have c3b0 : decide (x5_1 < (x0_1.length : Int)) = true := decide_eq_true c3
    clear c3
    by_cases c4 : 0 ≤ x5_1
    ·rw [if_pos c4] at H
     have c4b0 : decide (0 ≤ x5_1) = true := decide_eq_true c4
     clear c4
     obtain ⟨y338, hy338⟩ : ∃ y_ : List Int, y_ = (x0_1.set (x5_1 : Int).toNat ((x1_1) % 256)) := ⟨_, rfl⟩
     replace H : (laws_markByteS.l0 k1 y338 (wrap64 (x1_1 + 1)) (wrap64 (x5_1 + 1))) = some (r1, r2) := by first | (rw [hy338]; with_reducible exact H) | (have H2_ := (Option.bind_some _ _).symm.trans H; rw [hy338]; with_reducible exact H2_) | (have H2_ := (Option.bind_some _ _).symm.trans H; with_reducible exact H2_) | with_reducible exact H | (rw [hy338]; exact H) | exact H
     have Ny338 := Aside0.mk hy338
     clear hy338
     have H' := Aside0.mk H
     clear H
     obtain ⟨Ao6, co6, eo6⟩ := Kd.R_slice zC.out
     subst eo6
     have p5 : 0 ≤ (x5_1 : Int) := of_decide_eq_true (by with_reducible assumption)
     have q5 : (x5_1 : Int) < ((x0_1.length : Int) : Int) := of_decide_eq_true (by with_reducible assumption)
     obtain ⟨go5, co5, eo5, zD, gl5, cl5, HG5⟩ := Kd.R_form zC.out (by omega)
     (first | cases eo5 | (injection eo5 with ea_ en_ ec_; (first | subst ea_ | (injection ea_ with ea_; subst ea_)); subst ec_; clear en_))
     have GB5 := Aside0.mk zD
     have GG5 := Aside0.mk HG5
     clear zD gl5 HG5
     have HMgo5 := Aside0.mk (show (P0_ go5 ∨ w.heap.size ≤ go5) from (zC.out.1 _ rfl))
     obtain ⟨hx5_0, hf5_0⟩ := Kd.R_celln 0 zC.out (x5_1 : Int) p5 q5
     replace p5 := eq_true p5
     replace q5 := eq_true q5
     have HP7 := Kd.R_putg zC.out (x5_1 : Int) ((x1_1) % 256)
     go_wp2_with (first | ((with_reducible refine gate_store (t := 5) (p := 16) rfl ?_); refine store_event (t := 5) (p := 16) (v := ?vo_w8) (w1 := (wr.setCell ⟨go5, (x5_1 : Int).toNat, none⟩ (.int .u8 ((x1_1) % 256)))) ?hg ?ho ?hn ?hr ?_; (case ho => rfl); (case hg => rfl); (case hn => rfl); (case hr => first | (go_simp; done) | (go_simp; rfl)); intro w8 hw; have hg : wr.grownBy w8 (some go5) := (by rw [hw]; exact HP7.2); have hp_ : Kd.R (Kd.int .u8) 5 w8 w0.heap.size (fun k_ => (P0_ k_ ∨ w.heap.size ≤ k_)) (.slice (some ⟨go5, 0, none⟩) x0_1.length co6) y338 := (by rw [hw, Ny338.out]; exact HP7.1); clear HP7; have n0_ := Aside0.mk (hp_); have n1_ := Aside0.mk ((by rw [hw]; exact zl (HB.out) GB5.out : Below w0.heap.size w0 w8)); have n2_ := Aside0.mk (Kept.of_grown (S := (fun k_ => P0_ k_)) hg (by exact kt HK.out) (fun k_ e_ => (zC.out.1 k_ e_))); clear zC; clear HB; clear HK; have zC := n0_; have HB := n1_; have HK := n2_; clear n0_ n1_ n2_; clear hg hw hp_))
     go_roundg k1
     case measure => have := HK1.out; omega
     case rel => exact ⟨(y338), (wrap64 (x1_1 + 1)), (wrap64 (x5_1 + 1)), (by first | rfl | (simp [*]; done)), (by first | rfl | (simp [*]; done)), H', ⟨by have := HK1.out; omega⟩, ⟨RL zC.out⟩, ⟨by repeat (first | (with_reducible first | exact HK.out | apply Kept.alloc | apply Kept.drewN | apply Kept.drew) | exact HK.out)⟩, ⟨by repeat (first | (with_reducible first | exact HB.out | apply zh | apply zd | apply zi) | exact HB.out)⟩⟩
    ·rw [if_neg c4] at H
     exact absurd H (by simp)
   ·rw [if_neg c3] at H
    have c3b0 : decide (x5_1 < (x0_1.length : Int)) = false := decide_eq_false c3
    clear c3
    simp only [Option.some.injEq, Prod.mk.injEq] at H
    obtain ⟨rfl, rfl⟩ := H
    obtain ⟨Ao9, co9, eo9⟩ := Kd.R_slice zC.out
    subst eo9
    go_wp2
    go_ret
    exact ⟨by first | rfl | (simp [*] <;> rfl), RL zC.out, by repeat (first | (with_reducible first | exact HB.out | apply zh | apply zd | apply zi) | exact HB.out), by repeat (first | (with_reducible first | exact HK.out | apply Kept.alloc | apply Kept.drewN | apply Kept.drew) | exact HK.out)⟩

def laws_markText.l0 : Nat → Int → ByteArray → Option (ByteArray)
 | 0, _, _ => none
 | k + 1, x0, x3 => if x0 > 0 then ((some (([(wrap64 (48 + (Int.tmod x0 10))) % 256] : List Int) : List Int)).bind fun y339 => (if (strOfNums y339).size + x3.size ≤ 9223372036854775807 then (laws_markText.l0 k (wrap64 (Int.tdiv x0 10)) ((strOfNums y339) ++ x3)) else (none))) else (if 1 + x3.size ≤ 9223372036854775807 then (some ((⟨#[109]⟩ : ByteArray) ++ x3)) else (none))
def laws_markText.f (k : Nat) (a0 : Int) : Option (ByteArray) := if a0 ≤ 0 then (some (⟨#[109, 48]⟩ : ByteArray)) else (laws_markText.l0 k a0 (⟨#[]⟩ : ByteArray))
theorem laws_markText.mono_l : ∀ k, (∀ y0 y1, LeO (laws_markText.l0 k y0 y1) (laws_markText.l0 (k + 1) y0 y1))
 | 0 => fun _ _ r h => by simp [laws_markText.l0] at h
 | k + 1 => by
  have ih0 := laws_markText.mono_l k
  ·intro y0 y1
   unfold laws_markText.l0
   repeat' first
   | (with_reducible exact ih0 _ _)
   | (with_reducible exact LeO.refl _)
   | (with_reducible exact LeO.none _)
   | (with_reducible refine LeO.ite ?_ ?_)
   | (with_reducible refine LeO.bind ?_ (fun _ => ?_))
   | exact ih0 _ _
   | exact LeO.none _
   | refine LeO.ite ?_ ?_
   | refine LeO.bind ?_ (fun _ => ?_)
theorem laws_markText.mono : ∀ a0 k, LeO (laws_markText.f k a0) (laws_markText.f (k + 1) a0) := by
 intro a0 k
 have ih0 := laws_markText.mono_l k
 unfold laws_markText.f
 repeat' first
   | (with_reducible exact ih0 _ _)
   | (with_reducible exact LeO.refl _)
   | (with_reducible exact LeO.none _)
   | (with_reducible refine LeO.ite ?_ ?_)
   | (with_reducible refine LeO.bind ?_ (fun _ => ?_))
   | exact ih0 _ _
   | exact LeO.none _
   | refine LeO.ite ?_ ?_
   | refine LeO.bind ?_ (fun _ => ?_)
set_option maxHeartbeats 8000000 in
set_option maxRecDepth 100000 in
theorem laws_markText.calls (k : Nat) (a0 : Int) (r : ByteArray) (w : World) (h : laws_markText.f k a0 = some r) :
  Calls Tryd.prog 110 #[.int .i64 a0] w fun e w' => e = .returned (.string r) ∧ Below w.heap.size w w' := by
 have HB := Aside0.mk (Below.refl w.heap.size w)
 have H : (if a0 ≤ 0 then (some (⟨#[109, 48]⟩ : ByteArray)) else (laws_markText.l0 k a0 (⟨#[]⟩ : ByteArray))) = some r := h
 clear h
 by_cases c2 : a0 ≤ 0
 ·rw [if_pos c2] at H
  have c2b0 : decide (a0 ≤ 0) = true := decide_eq_true c2
  clear c2
  obtain rfl := Option.some.inj H
  go_enter Tryd.func110, Tryd.ntmps110
  go_wp2
  go_ret
  exact ⟨by first | rfl | (simp [*] <;> rfl), by repeat (first | (with_reducible first | exact HB.out | apply zh | apply zd | apply zi) | exact HB.out)⟩
 ·rw [if_neg c2] at H
  have c2b0 : decide (a0 ≤ 0) = false := decide_eq_false c2
  clear c2
  have H' := Aside0.mk H
  clear H
  go_enter Tryd.func110, Tryd.ntmps110
  go_wp2
  go_loopg [0, 3] k (fun kq v0 v3 w' => ∃ (x0_1 : Int) (x3_1 : ByteArray), v0 = .int .i64 x0_1 ∧ v3 = .string x3_1 ∧ Aside0 (laws_markText.l0 kq x0_1 x3_1 = some r) ∧ Aside0 (kq ≤ k) ∧ Aside0 (Below w.heap.size w w'))
  case atStart => exact ⟨(a0), ((⟨#[]⟩ : ByteArray)), (by first | rfl | (simp [*]; done)), (by first | rfl | (simp [*]; done)), H', ⟨Nat.le_refl _⟩, ⟨by repeat (first | (with_reducible first | exact HB.out | apply zh | apply zd | apply zi) | exact HB.out)⟩⟩
  case round =>
   clear H'
   try clear c1
   try clear c2
   try clear c2b0
   try clear p2
   obtain ⟨x0_1, x3_1, rfl, rfl, HA, HK1, HB⟩ := hrel
   cases gk with
   | zero => exact absurd HA.out (by simp [laws_markText.l0])
   | succ k1 =>
    have H := HA.out
    clear HA
    simp only [laws_markText.l0] at H
    by_cases c3 : x0_1 > 0
    ·rw [if_pos c3] at H
     have c3b0 : decide (0 < x0_1) = true := decide_eq_true c3
     clear c3
     obtain ⟨y339, hy339⟩ : ∃ y_ : List Int, y_ = (([(wrap64 (48 + (Int.tmod x0_1 10))) % 256] : List Int)) := ⟨_, rfl⟩
     replace H : (if (strOfNums y339).size + x3_1.size ≤ 9223372036854775807 then (laws_markText.l0 k1 (wrap64 (Int.tdiv x0_1 10)) ((strOfNums y339) ++ x3_1)) else (none)) = some r := by first | (rw [hy339]; with_reducible exact H) | (have H2_ := (Option.bind_some _ _).symm.trans H; rw [hy339]; with_reducible exact H2_) | (have H2_ := (Option.bind_some _ _).symm.trans H; with_reducible exact H2_) | with_reducible exact H | (rw [hy339]; exact H) | exact H
     have Ny339 := Aside0.mk hy339
     clear hy339
     by_cases c4 : (strOfNums y339).size + x3_1.size ≤ 9223372036854775807
     ·rw [if_pos c4] at H
      have c4b0 := eq_true c4
      have c4b1 : decide ((strOfNums y339).size + x3_1.size ≤ 9223372036854775807) = true := decide_eq_true c4
      try have c4b2 : (9223372036854775807 < (strOfNums y339).size + x3_1.size) = False := eq_false (Nat.not_lt.2 c4)
      have H' := Aside0.mk H
      clear H
      go_wp2_with (first | ((with_reducible refine zu (N := 12) rfl ?_); refine Kd.R_lit (Kd.int .u8) _ 5 ?hg (N := 12) ?hd (xs := ([(wrap64 (48 + (Int.tmod x0_1 10))) % 256] : List Int)) (inner := [.int .u8 ((wrap64 (48 + (Int.tmod x0_1 10))) % 256)]) (ok := fun _ => True) (okp := fun _ => True) ?hr ?hp (fun _ hk => hk) trivial (Below.refl _ _) (Nat.le_refl _) (by simp) ?_; (case hd => rfl); (case hg => rfl); (case hr => first | (go_simp; done) | (go_simp; rfl)); (case hp => exact (Reps.one (show Kd.M (Kd.int .u8) _ _ _ ((wrap64 (48 + (Int.tmod x0_1 10))) % 256) [.int .u8 ((wrap64 (48 + (Int.tmod x0_1 10))) % 256)] from rfl) (Reps.none _ _))); intro v340 w5 zC hb hg_ hnew_; clear hg_ hnew_; (first | rw [← Ny339.out] at zC | (simp only [Int.reduceToNat] at zC; rw [← Ny339.out] at zC)); have n0_ := Aside0.mk (Kd.R_lower zC (zn (by exact bl HB.out))); have n1_ := Aside0.mk (zm (by exact bl HB.out) hb); clear HB; have zD := n0_; have HB := n1_; clear n0_ n1_; clear hb zC; have hcv7 := own_string (P := Tryd.prog) Tryd.underlying22 Tryd.underlying5 Tryd.underlying9 (Kd.own_of_R zD.out)))
      go_roundg k1
      case measure => have := HK1.out; omega
      case rel => exact ⟨(wrap64 (Int.tdiv x0_1 10)), ((strOfNums y339) ++ x3_1), (by first | rfl | (simp [*]; done)), (by first | rfl | (simp [*]; done)), H', ⟨by have := HK1.out; omega⟩, ⟨by repeat (first | (with_reducible first | exact HB.out | apply zh | apply zd | apply zi) | exact HB.out)⟩⟩
     ·rw [if_neg c4] at H
      exact absurd H (by simp)
    ·rw [if_neg c3] at H
     have c3b0 : decide (0 < x0_1) = false := decide_eq_false c3
     clear c3
     by_cases c8 : 1 + x3_1.size ≤ 9223372036854775807
     ·rw [if_pos c8] at H
      have c8b0 := eq_true c8
      have c8b1 : decide (1 + x3_1.size ≤ 9223372036854775807) = true := decide_eq_true c8
      try have c8b2 : (9223372036854775807 < 1 + x3_1.size) = False := eq_false (Nat.not_lt.2 c8)
      obtain rfl := Option.some.inj H
      go_wp2
      go_ret
      exact ⟨by first | rfl | (simp [*] <;> rfl), by repeat (first | (with_reducible first | exact HB.out | apply zh | apply zd | apply zi) | exact HB.out)⟩
     ·rw [if_neg c8] at H
      exact absurd H (by simp)

def laws_markOpS.l0 : Nat → List (S124) → Int → Int → Option (Int × (List (S124)))
 | 0, _, _, _ => none
 | k + 1, x0, x1, x5 => if x5 < (x0.length : Int) then (if 0 ≤ x5 then ((some (x0.set (x5 : Int).toNat (⟨x1, (rd_T124 x0 x5).f1, (rd_T124 x0 x5).f2, (rd_T124 x0 x5).f3, (rd_T124 x0 x5).f4⟩ : S124) : List (S124))).bind fun y342 => ((laws_markText.f k (wrap64 (x1 + 1))).bind fun t343 => ((some (y342.set (x5 : Int).toNat (⟨(rd_T124 y342 x5).f0, t343, (rd_T124 y342 x5).f2, (rd_T124 y342 x5).f3, (rd_T124 y342 x5).f4⟩ : S124) : List (S124))).bind fun y344 => ((laws_markText.f k (wrap64 ((wrap64 (x1 + 1)) + 1))).bind fun t345 => ((some (y344.set (x5 : Int).toNat (⟨(rd_T124 y344 x5).f0, (rd_T124 y344 x5).f1, t345, (rd_T124 y344 x5).f3, (rd_T124 y344 x5).f4⟩ : S124) : List (S124))).bind fun y346 => ((some (y346.set (x5 : Int).toNat (⟨(rd_T124 y346 x5).f0, (rd_T124 y346 x5).f1, (rd_T124 y346 x5).f2, wrap64 ((wrap64 ((wrap64 (x1 + 1)) + 1)) + 1), (rd_T124 y346 x5).f4⟩ : S124) : List (S124))).bind fun y347 => (laws_markOpS.l0 k (y347.set (x5 : Int).toNat (⟨(rd_T124 y347 x5).f0, (rd_T124 y347 x5).f1, (rd_T124 y347 x5).f2, (rd_T124 y347 x5).f3, ((Int.tmod (wrap64 ((wrap64 ((wrap64 ((wrap64 (x1 + 1)) + 1)) + 1)) + 1)) 3) == 0)⟩ : S124)) (wrap64 ((wrap64 ((wrap64 ((wrap64 ((wrap64 (x1 + 1)) + 1)) + 1)) + 1)) + 1)) (wrap64 (x5 + 1))))))))) else (none)) else (some (x1, x0))
def laws_markOpS.f (k : Nat) (l0 : List (S124)) (a1 : Int) : Option (Int × (List (S124))) := laws_markOpS.l0 k l0 a1 0
theorem laws_markOpS.mono_l : ∀ k, (∀ y0 y1 y2, LeO (laws_markOpS.l0 k y0 y1 y2) (laws_markOpS.l0 (k + 1) y0 y1 y2))
 | 0 => fun _ _ _ r h => by simp [laws_markOpS.l0] at h
 | k + 1 => by
  have ih0 := laws_markOpS.mono_l k
  ·intro y0 y1 y2
   unfold laws_markOpS.l0
   repeat' first
   | (with_reducible exact ih0 _ _ _)
   | (with_reducible exact laws_markText.mono _ _)
   | (with_reducible exact LeO.refl _)
   | (with_reducible exact LeO.none _)
   | (with_reducible refine LeO.ite ?_ ?_)
   | (with_reducible refine LeO.bind ?_ (fun _ => ?_))
   | exact ih0 _ _ _
   | exact laws_markText.mono _ _
   | exact LeO.none _
   | refine LeO.ite ?_ ?_
   | refine LeO.bind ?_ (fun _ => ?_)
theorem laws_markOpS.mono : ∀ a0 a1 k, LeO (laws_markOpS.f k a0 a1) (laws_markOpS.f (k + 1) a0 a1) := by
 intro a0 a1 k
 have ih0 := laws_markOpS.mono_l k
 unfold laws_markOpS.f
 repeat' first
   | (with_reducible exact ih0 _ _ _)
   | (with_reducible exact laws_markText.mono _ _)
   | (with_reducible exact LeO.refl _)
   | (with_reducible exact LeO.none _)
   | (with_reducible refine LeO.ite ?_ ?_)
   | (with_reducible refine LeO.bind ?_ (fun _ => ?_))
   | exact ih0 _ _ _
   | exact laws_markText.mono _ _
   | exact LeO.none _
   | refine LeO.ite ?_ ?_
   | refine LeO.bind ?_ (fun _ => ?_)
set_option maxHeartbeats 8000000 in
set_option maxRecDepth 100000 in
theorem laws_markOpS.calls (k : Nat) (P0_ : Nat → Prop) (u9000_ : Value) (l0 : List (S124)) (a1 : Int) (r1 : Int) (r2 : List (S124)) (w0 w : World) (hB : Below w0.heap.size w0 w) (zE : Kd.R k124 124 w w0.heap.size P0_ u9000_ l0) (h : laws_markOpS.f k l0 a1 = some (r1, r2)) :
  Calls Tryd.prog 121 #[u9000_, .int .i64 a1] w fun e w' => e = .returned (.int .i64 r1) ∧ Kd.R k124 124 w' w0.heap.size (fun k_ => (P0_ k_ ∨ w.heap.size ≤ k_)) u9000_ r2 ∧ Below w0.heap.size w0 w' ∧ Kept w w' (fun k_ => P0_ k_) := by
 have zF := Aside0.mk (show Kd.R k124 124 w w0.heap.size (fun k_ => (P0_ k_ ∨ w.heap.size ≤ k_)) u9000_ l0 from Kd.R_mono zE (fun k_ hk => (.inl hk)))
 have HK := Aside0.mk (Kept.refl w (fun k_ => P0_ k_))
 have HW0 := Aside0.mk hB.size
 have HB := Aside0.mk hB
 clear hB
 have H : (laws_markOpS.l0 k l0 a1 0) = some (r1, r2) := h
 clear h
 have H' := Aside0.mk H
 clear H
 go_enter Tryd.func121, Tryd.ntmps121
 go_wp2
 go_loopg [1, 5] k (fun kq v1 v5 w' => ∃ (x0_1 : List (S124)) (x1_1 : Int) (x5_1 : Int), v1 = .int .i64 x1_1 ∧ v5 = .int .i64 x5_1 ∧ Aside0 (laws_markOpS.l0 kq x0_1 x1_1 x5_1 = some (r1, r2)) ∧ Aside0 (kq ≤ k) ∧ Aside0 (Kd.R k124 124 w' w0.heap.size (fun k_ => (P0_ k_ ∨ w.heap.size ≤ k_)) u9000_ x0_1) ∧ Aside0 (Kept w w' (fun k_ => P0_ k_)) ∧ Aside0 (Below w0.heap.size w0 w'))
 case atStart => exact ⟨(l0), (a1), (0), (by first | rfl | (simp [*]; done)), (by first | rfl | (simp [*]; done)), H', ⟨Nat.le_refl _⟩, ⟨RL zF.out⟩, ⟨by repeat (first | (with_reducible first | exact HK.out | apply Kept.alloc | apply Kept.drewN | apply Kept.drew) | exact HK.out)⟩, ⟨by repeat (first | (with_reducible first | exact HB.out | apply zh | apply zd | apply zi) | exact HB.out)⟩⟩
 case round =>
  clear H'
  try clear c1
  try clear p2
  obtain ⟨x0_1, x1_1, x5_1, rfl, rfl, HA, HK1, zC, HK, HB⟩ := hrel
  cases gk with
  | zero => exact absurd HA.out (by simp [laws_markOpS.l0])
  | succ k1 =>
   have H := HA.out
   clear HA
   simp only [laws_markOpS.l0] at H
   by_cases c3 : x5_1 < (x0_1.length : Int)
   ·rw [if_pos c3] at H
    have c3b0 : decide (x5_1 < (x0_1.length : Int)) = true := decide_eq_true c3
    clear c3
    by_cases c4 : 0 ≤ x5_1
    ·rw [if_pos c4] at H
     have c4b0 : decide (0 ≤ x5_1) = true := decide_eq_true c4
     clear c4
     obtain ⟨y342, hy342⟩ : ∃ y_ : List (S124), y_ = (x0_1.set (x5_1 : Int).toNat (⟨x1_1, (rd_T124 x0_1 x5_1).f1, (rd_T124 x0_1 x5_1).f2, (rd_T124 x0_1 x5_1).f3, (rd_T124 x0_1 x5_1).f4⟩ : S124)) := ⟨_, rfl⟩
     replace H : ((laws_markText.f k1 (wrap64 (x1_1 + 1))).bind fun t343 => ((some (y342.set (x5_1 : Int).toNat (⟨(rd_T124 y342 x5_1).f0, t343, (rd_T124 y342 x5_1).f2, (rd_T124 y342 x5_1).f3, (rd_T124 y342 x5_1).f4⟩ : S124) : List (S124))).bind fun y344 => ((laws_markText.f k1 (wrap64 ((wrap64 (x1_1 + 1)) + 1))).bind fun t345 => ((some (y344.set (x5_1 : Int).toNat (⟨(rd_T124 y344 x5_1).f0, (rd_T124 y344 x5_1).f1, t345, (rd_T124 y344 x5_1).f3, (rd_T124 y344 x5_1).f4⟩ : S124) : List (S124))).bind fun y346 => ((some (y346.set (x5_1 : Int).toNat (⟨(rd_T124 y346 x5_1).f0, (rd_T124 y346 x5_1).f1, (rd_T124 y346 x5_1).f2, wrap64 ((wrap64 ((wrap64 (x1_1 + 1)) + 1)) + 1), (rd_T124 y346 x5_1).f4⟩ : S124) : List (S124))).bind fun y347 => (laws_markOpS.l0 k1 (y347.set (x5_1 : Int).toNat (⟨(rd_T124 y347 x5_1).f0, (rd_T124 y347 x5_1).f1, (rd_T124 y347 x5_1).f2, (rd_T124 y347 x5_1).f3, ((Int.tmod (wrap64 ((wrap64 ((wrap64 ((wrap64 (x1_1 + 1)) + 1)) + 1)) + 1)) 3) == 0)⟩ : S124)) (wrap64 ((wrap64 ((wrap64 ((wrap64 ((wrap64 (x1_1 + 1)) + 1)) + 1)) + 1)) + 1)) (wrap64 (x5_1 + 1)))))))) = some (r1, r2) := by first | (rw [hy342]; with_reducible exact H) | (have H2_ := (Option.bind_some _ _).symm.trans H; rw [hy342]; with_reducible exact H2_) | (have H2_ := (Option.bind_some _ _).symm.trans H; with_reducible exact H2_) | with_reducible exact H | (rw [hy342]; exact H) | exact H
     have Ny342 := Aside0.mk hy342
     clear hy342
     replace H := Option.bind_eq_some_iff.mp H
     obtain ⟨t343, A60, H⟩ := H
     try dsimp only at H
     have A6 := Aside0.mk A60
     clear A60
     obtain ⟨y344, hy344⟩ : ∃ y_ : List (S124), y_ = (y342.set (x5_1 : Int).toNat (⟨(rd_T124 y342 x5_1).f0, t343, (rd_T124 y342 x5_1).f2, (rd_T124 y342 x5_1).f3, (rd_T124 y342 x5_1).f4⟩ : S124)) := ⟨_, rfl⟩
     replace H : ((laws_markText.f k1 (wrap64 ((wrap64 (x1_1 + 1)) + 1))).bind fun t345 => ((some (y344.set (x5_1 : Int).toNat (⟨(rd_T124 y344 x5_1).f0, (rd_T124 y344 x5_1).f1, t345, (rd_T124 y344 x5_1).f3, (rd_T124 y344 x5_1).f4⟩ : S124) : List (S124))).bind fun y346 => ((some (y346.set (x5_1 : Int).toNat (⟨(rd_T124 y346 x5_1).f0, (rd_T124 y346 x5_1).f1, (rd_T124 y346 x5_1).f2, wrap64 ((wrap64 ((wrap64 (x1_1 + 1)) + 1)) + 1), (rd_T124 y346 x5_1).f4⟩ : S124) : List (S124))).bind fun y347 => (laws_markOpS.l0 k1 (y347.set (x5_1 : Int).toNat (⟨(rd_T124 y347 x5_1).f0, (rd_T124 y347 x5_1).f1, (rd_T124 y347 x5_1).f2, (rd_T124 y347 x5_1).f3, ((Int.tmod (wrap64 ((wrap64 ((wrap64 ((wrap64 (x1_1 + 1)) + 1)) + 1)) + 1)) 3) == 0)⟩ : S124)) (wrap64 ((wrap64 ((wrap64 ((wrap64 ((wrap64 (x1_1 + 1)) + 1)) + 1)) + 1)) + 1)) (wrap64 (x5_1 + 1)))))) = some (r1, r2) := by first | (rw [hy344]; with_reducible exact H) | (have H2_ := (Option.bind_some _ _).symm.trans H; rw [hy344]; with_reducible exact H2_) | (have H2_ := (Option.bind_some _ _).symm.trans H; with_reducible exact H2_) | with_reducible exact H | (rw [hy344]; exact H) | exact H
     have Ny344 := Aside0.mk hy344
     clear hy344
     replace H := Option.bind_eq_some_iff.mp H
     obtain ⟨t345, A80, H⟩ := H
     try dsimp only at H
     have A8 := Aside0.mk A80
     clear A80
     obtain ⟨y346, hy346⟩ : ∃ y_ : List (S124), y_ = (y344.set (x5_1 : Int).toNat (⟨(rd_T124 y344 x5_1).f0, (rd_T124 y344 x5_1).f1, t345, (rd_T124 y344 x5_1).f3, (rd_T124 y344 x5_1).f4⟩ : S124)) := ⟨_, rfl⟩
     replace H : ((some (y346.set (x5_1 : Int).toNat (⟨(rd_T124 y346 x5_1).f0, (rd_T124 y346 x5_1).f1, (rd_T124 y346 x5_1).f2, wrap64 ((wrap64 ((wrap64 (x1_1 + 1)) + 1)) + 1), (rd_T124 y346 x5_1).f4⟩ : S124) : List (S124))).bind fun y347 => (laws_markOpS.l0 k1 (y347.set (x5_1 : Int).toNat (⟨(rd_T124 y347 x5_1).f0, (rd_T124 y347 x5_1).f1, (rd_T124 y347 x5_1).f2, (rd_T124 y347 x5_1).f3, ((Int.tmod (wrap64 ((wrap64 ((wrap64 ((wrap64 (x1_1 + 1)) + 1)) + 1)) + 1)) 3) == 0)⟩ : S124)) (wrap64 ((wrap64 ((wrap64 ((wrap64 ((wrap64 (x1_1 + 1)) + 1)) + 1)) + 1)) + 1)) (wrap64 (x5_1 + 1)))) = some (r1, r2) := by first | (rw [hy346]; with_reducible exact H) | (have H2_ := (Option.bind_some _ _).symm.trans H; rw [hy346]; with_reducible exact H2_) | (have H2_ := (Option.bind_some _ _).symm.trans H; with_reducible exact H2_) | with_reducible exact H | (rw [hy346]; exact H) | exact H
     have Ny346 := Aside0.mk hy346
     clear hy346
     obtain ⟨y347, hy347⟩ : ∃ y_ : List (S124), y_ = (y346.set (x5_1 : Int).toNat (⟨(rd_T124 y346 x5_1).f0, (rd_T124 y346 x5_1).f1, (rd_T124 y346 x5_1).f2, wrap64 ((wrap64 ((wrap64 (x1_1 + 1)) + 1)) + 1), (rd_T124 y346 x5_1).f4⟩ : S124)) := ⟨_, rfl⟩
     replace H : (laws_markOpS.l0 k1 (y347.set (x5_1 : Int).toNat (⟨(rd_T124 y347 x5_1).f0, (rd_T124 y347 x5_1).f1, (rd_T124 y347 x5_1).f2, (rd_T124 y347 x5_1).f3, ((Int.tmod (wrap64 ((wrap64 ((wrap64 ((wrap64 (x1_1 + 1)) + 1)) + 1)) + 1)) 3) == 0)⟩ : S124)) (wrap64 ((wrap64 ((wrap64 ((wrap64 ((wrap64 (x1_1 + 1)) + 1)) + 1)) + 1)) + 1)) (wrap64 (x5_1 + 1))) = some (r1, r2) := by first | (rw [hy347]; with_reducible exact H) | (have H2_ := (Option.bind_some _ _).symm.trans H; rw [hy347]; with_reducible exact H2_) | (have H2_ := (Option.bind_some _ _).symm.trans H; with_reducible exact H2_) | with_reducible exact H | (rw [hy347]; exact H) | exact H
     have Ny347 := Aside0.mk hy347
     clear hy347
     obtain ⟨y348, hy348⟩ : ∃ y_ : List (S124), y_ = (y347.set (x5_1 : Int).toNat (⟨(rd_T124 y347 x5_1).f0, (rd_T124 y347 x5_1).f1, (rd_T124 y347 x5_1).f2, (rd_T124 y347 x5_1).f3, ((Int.tmod (wrap64 ((wrap64 ((wrap64 ((wrap64 (x1_1 + 1)) + 1)) + 1)) + 1)) 3) == 0)⟩ : S124)) := ⟨_, rfl⟩
     replace H : (laws_markOpS.l0 k1 y348 (wrap64 ((wrap64 ((wrap64 ((wrap64 ((wrap64 (x1_1 + 1)) + 1)) + 1)) + 1)) + 1)) (wrap64 (x5_1 + 1))) = some (r1, r2) := by first | (rw [hy348]; with_reducible exact H) | (have H2_ := (Option.bind_some _ _).symm.trans H; rw [hy348]; with_reducible exact H2_) | (have H2_ := (Option.bind_some _ _).symm.trans H; with_reducible exact H2_) | with_reducible exact H | (rw [hy348]; exact H) | exact H
     have Ny348 := Aside0.mk hy348
     clear hy348
     have H' := Aside0.mk H
     clear H
     obtain ⟨Ao12, co12, eo12⟩ := Kd.R_slice zC.out
     subst eo12
     have p5 : 0 ≤ (x5_1 : Int) := of_decide_eq_true (by with_reducible assumption)
     have q5 : (x5_1 : Int) < ((x0_1.length : Int) : Int) := of_decide_eq_true (by with_reducible assumption)
     obtain ⟨go5, co5, eo5, zD, gl5, cl5, HG5⟩ := Kd.R_form zC.out (by omega)
     (first | cases eo5 | (injection eo5 with ea_ en_ ec_; (first | subst ea_ | (injection ea_ with ea_; subst ea_)); subst ec_; clear en_))
     have GB5 := Aside0.mk zD
     have GG5 := Aside0.mk HG5
     clear zD gl5 HG5
     have HMgo5 := Aside0.mk (show (P0_ go5 ∨ w.heap.size ≤ go5) from (zC.out.1 _ rfl))
     obtain ⟨ce5, hcl5, hM5, hcc5, hfr5⟩ := Kd.R_elem zC.out z124 (x5_1 : Int) p5 q5
     obtain rfl := k124_openM hM5
     have hx5_0 : wr.cell? ⟨go5, (x5_1 : Int).toNat * 5, none⟩ = some (.int .i64 ((rd_T124 x0_1 x5_1).f0)) := hcc5 0 _ rfl
     have hx5_1 : wr.cell? ⟨go5, (x5_1 : Int).toNat * 5 + 1, none⟩ = some (.string ((rd_T124 x0_1 x5_1).f1)) := hcc5 1 _ rfl
     have hx5_2 : wr.cell? ⟨go5, (x5_1 : Int).toNat * 5 + 2, none⟩ = some (.string ((rd_T124 x0_1 x5_1).f2)) := hcc5 2 _ rfl
     have hx5_3 : wr.cell? ⟨go5, (x5_1 : Int).toNat * 5 + 3, none⟩ = some (.int .i64 ((rd_T124 x0_1 x5_1).f3)) := hcc5 3 _ rfl
     have hx5_4 : wr.cell? ⟨go5, (x5_1 : Int).toNat * 5 + 4, none⟩ = some (.bool ((rd_T124 x0_1 x5_1).f4)) := hcc5 4 _ rfl
     have hf5_0 : wr.frozen? ⟨go5, (x5_1 : Int).toNat * 5, none⟩ = false := hfr5 0
     have hf5_1 : wr.frozen? ⟨go5, (x5_1 : Int).toNat * 5 + 1, none⟩ = false := hfr5 1
     have hf5_2 : wr.frozen? ⟨go5, (x5_1 : Int).toNat * 5 + 2, none⟩ = false := hfr5 2
     have hf5_3 : wr.frozen? ⟨go5, (x5_1 : Int).toNat * 5 + 3, none⟩ = false := hfr5 3
     have hf5_4 : wr.frozen? ⟨go5, (x5_1 : Int).toNat * 5 + 4, none⟩ = false := hfr5 4
     clear hcl5 hcc5 hfr5 hM5
     replace p5 := eq_true p5
     replace q5 := eq_true q5
     have HX13 := Aside0.mk (show Kd.R k124 124 wr w0.heap.size (fun k_ => (P0_ k_ ∨ w.heap.size ≤ k_)) (.slice (some ⟨go5, 0, none⟩) x0_1.length co12) x0_1 from (RL zC.out))
     obtain ⟨ce13, hcl13, hM13, hcc13, hfr13⟩ := Kd.R_elem HX13.out z124 (x5_1 : Int) (of_decide_eq_true (by with_reducible assumption)) (by have h_ : (x5_1 : Int) < ((x0_1.length : Int) : Int) := of_decide_eq_true (by with_reducible assumption); first | exact h_ | (have e_ := (Kd.R_reads' zC.out).1; omega) | simpa using h_)
     obtain rfl := k124_openM hM13
     have HP13 := Kd.R_seg HX13.out (x5_1 : Int) (of_decide_eq_true (by with_reducible assumption)) (by have h_ : (x5_1 : Int) < ((x0_1.length : Int) : Int) := of_decide_eq_true (by with_reducible assumption); first | exact h_ | (have e_ := (Kd.R_reads' zC.out).1; omega) | simpa using h_) (seg := [.int .i64 x1_1]) (j := 0) hcl13 hcc13 (show 1 ≤ 5 from by decide) (x' := (⟨x1_1, (rd_T124 x0_1 x5_1).f1, (rd_T124 x0_1 x5_1).f2, (rd_T124 x0_1 x5_1).f3, (rd_T124 x0_1 x5_1).f4⟩ : S124)) (k124_mkM _ _ _ (⟨x1_1, (rd_T124 x0_1 x5_1).f1, (rd_T124 x0_1 x5_1).f2, (rd_T124 x0_1 x5_1).f3, (rd_T124 x0_1 x5_1).f4⟩ : S124) ) (fun _ hk => hk)
     have hx13_0 := hcc13 0 _ rfl
     (try simp only [show (k124).sz = 5 from rfl, Nat.mul_one, Nat.add_zero] at hx13_0)
     have hf13_0 := hfr13 0
     (try simp only [show (k124).sz = 5 from rfl, Nat.mul_one, Nat.add_zero] at hf13_0)
     clear hcl13 hcc13 hfr13 hM13
     go_wp2_with (first | ((with_reducible refine gate_store (t := 2) (p := 16) rfl ?_); refine store_event (t := 2) (p := 16) (v := ?vo_w14) (w1 := (wr.setCell ⟨go5, (x5_1 : Int).toNat * 5, none⟩ (.int .i64 x1_1))) ?hg ?ho ?hn ?hr ?_; (case ho => rfl); (case hg => rfl); (case hn => rfl); (case hr => first | (go_simp; done) | (go_simp; rfl)); intro w14 hw; have hg : wr.grownBy w14 (some go5) := (by rw [hw]; exact HP13.2); have hp_ : Kd.R k124 124 w14 w0.heap.size (fun k_ => (P0_ k_ ∨ w.heap.size ≤ k_)) (.slice (some ⟨go5, 0, none⟩) x0_1.length co12) y342 := (by rw [hw, Ny342.out]; exact HP13.1); clear HP13; have n0_ := Aside0.mk (hp_); have n1_ := Aside0.mk ((by rw [hw]; exact zl (HB.out) GB5.out : Below w0.heap.size w0 w14)); have n2_ := Aside0.mk (Kept.of_grown (S := (fun k_ => P0_ k_)) hg (by exact kt HK.out) (fun k_ e_ => (zC.out.1 k_ e_))); clear zC; clear HB; clear HK; have zC := n0_; have HB := n1_; have HK := n2_; clear n0_ n1_ n2_; clear hg hw hp_) | ((with_reducible refine zo (f := 110) rfl ?_); refine zy (some 22) rfl rfl Tryd.func110 (by kernel_rfl) rfl #[.int .i64 (wrap64 (x1_1 + 1))] rfl (by (try simp only [List.map_toArray, List.map_cons, List.map_nil]); first | done | rfl) ?_; (with_reducible refine (laws_markText.calls k1 (wrap64 (x1_1 + 1)) t343 _ A6.out).mono ?_); rintro e w15 ⟨rfl, hb⟩; refine ⟨_, rfl, ?_⟩; have n0_ := Aside0.mk (Kd.R_below (RL zC.out) hb); have n1_ := Aside0.mk (Kept.below (S := (fun k_ => P0_ k_)) (by exact kt HK.out) hb); have n2_ := Aside0.mk (zm (by exact bl HB.out) hb); clear zC; clear HK; clear HB; have zC := n0_; have HK := n1_; have HB := n2_; clear n0_ n1_ n2_; (try clear hb); (try clear hb2); (try clear hk); (try clear hi); have p7 : 0 ≤ (x5_1 : Int) := of_decide_eq_true (by with_reducible assumption); have q7 : (x5_1 : Int) < ((x0_1.length : Int) : Int) := of_decide_eq_true (by with_reducible assumption); obtain ⟨ce7, hcl7, hM7, hcc7, hfr7⟩ := Kd.R_elem zC.out z124 (x5_1 : Int) p7 q7; obtain rfl := k124_openM hM7; have hx7_0 : w15.cell? ⟨go5, (x5_1 : Int).toNat * 5, none⟩ = some (.int .i64 ((rd_T124 y342 x5_1).f0)) := hcc7 0 _ rfl; have hx7_1 : w15.cell? ⟨go5, (x5_1 : Int).toNat * 5 + 1, none⟩ = some (.string ((rd_T124 y342 x5_1).f1)) := hcc7 1 _ rfl; have hx7_2 : w15.cell? ⟨go5, (x5_1 : Int).toNat * 5 + 2, none⟩ = some (.string ((rd_T124 y342 x5_1).f2)) := hcc7 2 _ rfl; have hx7_3 : w15.cell? ⟨go5, (x5_1 : Int).toNat * 5 + 3, none⟩ = some (.int .i64 ((rd_T124 y342 x5_1).f3)) := hcc7 3 _ rfl; have hx7_4 : w15.cell? ⟨go5, (x5_1 : Int).toNat * 5 + 4, none⟩ = some (.bool ((rd_T124 y342 x5_1).f4)) := hcc7 4 _ rfl; have hf7_0 : w15.frozen? ⟨go5, (x5_1 : Int).toNat * 5, none⟩ = false := hfr7 0; have hf7_1 : w15.frozen? ⟨go5, (x5_1 : Int).toNat * 5 + 1, none⟩ = false := hfr7 1; have hf7_2 : w15.frozen? ⟨go5, (x5_1 : Int).toNat * 5 + 2, none⟩ = false := hfr7 2; have hf7_3 : w15.frozen? ⟨go5, (x5_1 : Int).toNat * 5 + 3, none⟩ = false := hfr7 3; have hf7_4 : w15.frozen? ⟨go5, (x5_1 : Int).toNat * 5 + 4, none⟩ = false := hfr7 4; clear hcl7 hcc7 hfr7 hM7; replace p7 := eq_true p7; replace q7 := eq_true q7; have HX16 := Aside0.mk (show Kd.R k124 124 w15 w0.heap.size (fun k_ => (P0_ k_ ∨ w.heap.size ≤ k_)) (.slice (some ⟨go5, 0, none⟩) x0_1.length co12) y342 from (RL zC.out)); obtain ⟨ce16, hcl16, hM16, hcc16, hfr16⟩ := Kd.R_elem HX16.out z124 (x5_1 : Int) (of_decide_eq_true (by with_reducible assumption)) (by have h_ : (x5_1 : Int) < ((x0_1.length : Int) : Int) := of_decide_eq_true (by with_reducible assumption); first | exact h_ | (have e_ := (Kd.R_reads' zC.out).1; omega) | simpa using h_); obtain rfl := k124_openM hM16; have HP16 := Kd.R_seg HX16.out (x5_1 : Int) (of_decide_eq_true (by with_reducible assumption)) (by have h_ : (x5_1 : Int) < ((x0_1.length : Int) : Int) := of_decide_eq_true (by with_reducible assumption); first | exact h_ | (have e_ := (Kd.R_reads' zC.out).1; omega) | simpa using h_) (seg := [.string t343]) (j := 1) hcl16 hcc16 (show 2 ≤ 5 from by decide) (x' := (⟨(rd_T124 y342 x5_1).f0, t343, (rd_T124 y342 x5_1).f2, (rd_T124 y342 x5_1).f3, (rd_T124 y342 x5_1).f4⟩ : S124)) (k124_mkM _ _ _ (⟨(rd_T124 y342 x5_1).f0, t343, (rd_T124 y342 x5_1).f2, (rd_T124 y342 x5_1).f3, (rd_T124 y342 x5_1).f4⟩ : S124) ) (fun _ hk => hk); have hx16_1 := hcc16 1 _ rfl; (try simp only [show (k124).sz = 5 from rfl, Nat.mul_one, Nat.add_zero] at hx16_1); have hf16_1 := hfr16 1; (try simp only [show (k124).sz = 5 from rfl, Nat.mul_one, Nat.add_zero] at hf16_1); clear hcl16 hcc16 hfr16 hM16) | ((with_reducible refine gate_store (t := 9) (p := 24) rfl ?_); refine store_event (t := 9) (p := 24) (v := ?vo_w17) (w1 := (w15.setCell ⟨go5, (x5_1 : Int).toNat * 5 + 1, none⟩ (.string t343))) ?hg ?ho ?hn ?hr ?_; (case ho => rfl); (case hg => rfl); (case hn => rfl); (case hr => first | (go_simp; done) | (go_simp; rfl)); intro w17 hw; have hg : w15.grownBy w17 (some go5) := (by rw [hw]; exact HP16.2); have hp_ : Kd.R k124 124 w17 w0.heap.size (fun k_ => (P0_ k_ ∨ w.heap.size ≤ k_)) (.slice (some ⟨go5, 0, none⟩) x0_1.length co12) y344 := (by rw [hw, Ny344.out]; exact HP16.1); clear HP16; have n0_ := Aside0.mk (hp_); have n1_ := Aside0.mk ((by rw [hw]; exact zl (HB.out) GB5.out : Below w0.heap.size w0 w17)); have n2_ := Aside0.mk (Kept.of_grown (S := (fun k_ => P0_ k_)) hg (by exact kt HK.out) (fun k_ e_ => (zC.out.1 k_ e_))); clear zC; clear HB; clear HK; have zC := n0_; have HB := n1_; have HK := n2_; clear n0_ n1_ n2_; clear hg hw hp_) | ((with_reducible refine zo (f := 110) rfl ?_); refine zy (some 30) rfl rfl Tryd.func110 (by kernel_rfl) rfl #[.int .i64 (wrap64 ((wrap64 (x1_1 + 1)) + 1))] rfl (by (try simp only [List.map_toArray, List.map_cons, List.map_nil]); first | done | rfl) ?_; (with_reducible refine (laws_markText.calls k1 (wrap64 ((wrap64 (x1_1 + 1)) + 1)) t345 _ A8.out).mono ?_); rintro e w18 ⟨rfl, hb⟩; refine ⟨_, rfl, ?_⟩; have n0_ := Aside0.mk (Kd.R_below (RL zC.out) hb); have n1_ := Aside0.mk (Kept.below (S := (fun k_ => P0_ k_)) (by exact kt HK.out) hb); have n2_ := Aside0.mk (zm (by exact bl HB.out) hb); clear zC; clear HK; clear HB; have zC := n0_; have HK := n1_; have HB := n2_; clear n0_ n1_ n2_; (try clear hb); (try clear hb2); (try clear hk); (try clear hi); have p9 : 0 ≤ (x5_1 : Int) := of_decide_eq_true (by with_reducible assumption); have q9 : (x5_1 : Int) < ((x0_1.length : Int) : Int) := of_decide_eq_true (by with_reducible assumption); obtain ⟨ce9, hcl9, hM9, hcc9, hfr9⟩ := Kd.R_elem zC.out z124 (x5_1 : Int) p9 q9; obtain rfl := k124_openM hM9; have hx9_0 : w18.cell? ⟨go5, (x5_1 : Int).toNat * 5, none⟩ = some (.int .i64 ((rd_T124 y344 x5_1).f0)) := hcc9 0 _ rfl; have hx9_1 : w18.cell? ⟨go5, (x5_1 : Int).toNat * 5 + 1, none⟩ = some (.string ((rd_T124 y344 x5_1).f1)) := hcc9 1 _ rfl; have hx9_2 : w18.cell? ⟨go5, (x5_1 : Int).toNat * 5 + 2, none⟩ = some (.string ((rd_T124 y344 x5_1).f2)) := hcc9 2 _ rfl; have hx9_3 : w18.cell? ⟨go5, (x5_1 : Int).toNat * 5 + 3, none⟩ = some (.int .i64 ((rd_T124 y344 x5_1).f3)) := hcc9 3 _ rfl; have hx9_4 : w18.cell? ⟨go5, (x5_1 : Int).toNat * 5 + 4, none⟩ = some (.bool ((rd_T124 y344 x5_1).f4)) := hcc9 4 _ rfl; have hf9_0 : w18.frozen? ⟨go5, (x5_1 : Int).toNat * 5, none⟩ = false := hfr9 0; have hf9_1 : w18.frozen? ⟨go5, (x5_1 : Int).toNat * 5 + 1, none⟩ = false := hfr9 1; have hf9_2 : w18.frozen? ⟨go5, (x5_1 : Int).toNat * 5 + 2, none⟩ = false := hfr9 2; have hf9_3 : w18.frozen? ⟨go5, (x5_1 : Int).toNat * 5 + 3, none⟩ = false := hfr9 3; have hf9_4 : w18.frozen? ⟨go5, (x5_1 : Int).toNat * 5 + 4, none⟩ = false := hfr9 4; clear hcl9 hcc9 hfr9 hM9; replace p9 := eq_true p9; replace q9 := eq_true q9; have HX19 := Aside0.mk (show Kd.R k124 124 w18 w0.heap.size (fun k_ => (P0_ k_ ∨ w.heap.size ≤ k_)) (.slice (some ⟨go5, 0, none⟩) x0_1.length co12) y344 from (RL zC.out)); obtain ⟨ce19, hcl19, hM19, hcc19, hfr19⟩ := Kd.R_elem HX19.out z124 (x5_1 : Int) (of_decide_eq_true (by with_reducible assumption)) (by have h_ : (x5_1 : Int) < ((x0_1.length : Int) : Int) := of_decide_eq_true (by with_reducible assumption); first | exact h_ | (have e_ := (Kd.R_reads' zC.out).1; omega) | simpa using h_); obtain rfl := k124_openM hM19; have HP19 := Kd.R_seg HX19.out (x5_1 : Int) (of_decide_eq_true (by with_reducible assumption)) (by have h_ : (x5_1 : Int) < ((x0_1.length : Int) : Int) := of_decide_eq_true (by with_reducible assumption); first | exact h_ | (have e_ := (Kd.R_reads' zC.out).1; omega) | simpa using h_) (seg := [.string t345]) (j := 2) hcl19 hcc19 (show 3 ≤ 5 from by decide) (x' := (⟨(rd_T124 y344 x5_1).f0, (rd_T124 y344 x5_1).f1, t345, (rd_T124 y344 x5_1).f3, (rd_T124 y344 x5_1).f4⟩ : S124)) (k124_mkM _ _ _ (⟨(rd_T124 y344 x5_1).f0, (rd_T124 y344 x5_1).f1, t345, (rd_T124 y344 x5_1).f3, (rd_T124 y344 x5_1).f4⟩ : S124) ) (fun _ hk => hk); have hx19_2 := hcc19 2 _ rfl; (try simp only [show (k124).sz = 5 from rfl, Nat.mul_one, Nat.add_zero] at hx19_2); have hf19_2 := hfr19 2; (try simp only [show (k124).sz = 5 from rfl, Nat.mul_one, Nat.add_zero] at hf19_2); clear hcl19 hcc19 hfr19 hM19) | ((with_reducible refine gate_store (t := 9) (p := 32) rfl ?_); refine store_event (t := 9) (p := 32) (v := ?vo_w20) (w1 := (w18.setCell ⟨go5, (x5_1 : Int).toNat * 5 + 2, none⟩ (.string t345))) ?hg ?ho ?hn ?hr ?_; (case ho => rfl); (case hg => rfl); (case hn => rfl); (case hr => first | (go_simp; done) | (go_simp; rfl)); intro w20 hw; have hg : w18.grownBy w20 (some go5) := (by rw [hw]; exact HP19.2); have hp_ : Kd.R k124 124 w20 w0.heap.size (fun k_ => (P0_ k_ ∨ w.heap.size ≤ k_)) (.slice (some ⟨go5, 0, none⟩) x0_1.length co12) y346 := (by rw [hw, Ny346.out]; exact HP19.1); clear HP19; have n0_ := Aside0.mk (hp_); have n1_ := Aside0.mk ((by rw [hw]; exact zl (HB.out) GB5.out : Below w0.heap.size w0 w20)); have n2_ := Aside0.mk (Kept.of_grown (S := (fun k_ => P0_ k_)) hg (by exact kt HK.out) (fun k_ e_ => (zC.out.1 k_ e_))); clear zC; clear HB; clear HK; have zC := n0_; have HB := n1_; have HK := n2_; clear n0_ n1_ n2_; clear hg hw hp_; have p10 : 0 ≤ (x5_1 : Int) := of_decide_eq_true (by with_reducible assumption); have q10 : (x5_1 : Int) < ((x0_1.length : Int) : Int) := of_decide_eq_true (by with_reducible assumption); obtain ⟨ce10, hcl10, hM10, hcc10, hfr10⟩ := Kd.R_elem zC.out z124 (x5_1 : Int) p10 q10; obtain rfl := k124_openM hM10; have hx10_0 : w20.cell? ⟨go5, (x5_1 : Int).toNat * 5, none⟩ = some (.int .i64 ((rd_T124 y346 x5_1).f0)) := hcc10 0 _ rfl; have hx10_1 : w20.cell? ⟨go5, (x5_1 : Int).toNat * 5 + 1, none⟩ = some (.string ((rd_T124 y346 x5_1).f1)) := hcc10 1 _ rfl; have hx10_2 : w20.cell? ⟨go5, (x5_1 : Int).toNat * 5 + 2, none⟩ = some (.string ((rd_T124 y346 x5_1).f2)) := hcc10 2 _ rfl; have hx10_3 : w20.cell? ⟨go5, (x5_1 : Int).toNat * 5 + 3, none⟩ = some (.int .i64 ((rd_T124 y346 x5_1).f3)) := hcc10 3 _ rfl; have hx10_4 : w20.cell? ⟨go5, (x5_1 : Int).toNat * 5 + 4, none⟩ = some (.bool ((rd_T124 y346 x5_1).f4)) := hcc10 4 _ rfl; have hf10_0 : w20.frozen? ⟨go5, (x5_1 : Int).toNat * 5, none⟩ = false := hfr10 0; have hf10_1 : w20.frozen? ⟨go5, (x5_1 : Int).toNat * 5 + 1, none⟩ = false := hfr10 1; have hf10_2 : w20.frozen? ⟨go5, (x5_1 : Int).toNat * 5 + 2, none⟩ = false := hfr10 2; have hf10_3 : w20.frozen? ⟨go5, (x5_1 : Int).toNat * 5 + 3, none⟩ = false := hfr10 3; have hf10_4 : w20.frozen? ⟨go5, (x5_1 : Int).toNat * 5 + 4, none⟩ = false := hfr10 4; clear hcl10 hcc10 hfr10 hM10; replace p10 := eq_true p10; replace q10 := eq_true q10; have HX21 := Aside0.mk (show Kd.R k124 124 w20 w0.heap.size (fun k_ => (P0_ k_ ∨ w.heap.size ≤ k_)) (.slice (some ⟨go5, 0, none⟩) x0_1.length co12) y346 from (RL zC.out)); obtain ⟨ce21, hcl21, hM21, hcc21, hfr21⟩ := Kd.R_elem HX21.out z124 (x5_1 : Int) (of_decide_eq_true (by with_reducible assumption)) (by have h_ : (x5_1 : Int) < ((x0_1.length : Int) : Int) := of_decide_eq_true (by with_reducible assumption); first | exact h_ | (have e_ := (Kd.R_reads' zC.out).1; omega) | simpa using h_); obtain rfl := k124_openM hM21; have HP21 := Kd.R_seg HX21.out (x5_1 : Int) (of_decide_eq_true (by with_reducible assumption)) (by have h_ : (x5_1 : Int) < ((x0_1.length : Int) : Int) := of_decide_eq_true (by with_reducible assumption); first | exact h_ | (have e_ := (Kd.R_reads' zC.out).1; omega) | simpa using h_) (seg := [.int .i64 (wrap64 ((wrap64 ((wrap64 (x1_1 + 1)) + 1)) + 1))]) (j := 3) hcl21 hcc21 (show 4 ≤ 5 from by decide) (x' := (⟨(rd_T124 y346 x5_1).f0, (rd_T124 y346 x5_1).f1, (rd_T124 y346 x5_1).f2, wrap64 ((wrap64 ((wrap64 (x1_1 + 1)) + 1)) + 1), (rd_T124 y346 x5_1).f4⟩ : S124)) (k124_mkM _ _ _ (⟨(rd_T124 y346 x5_1).f0, (rd_T124 y346 x5_1).f1, (rd_T124 y346 x5_1).f2, wrap64 ((wrap64 ((wrap64 (x1_1 + 1)) + 1)) + 1), (rd_T124 y346 x5_1).f4⟩ : S124) ) (fun _ hk => hk); have hx21_3 := hcc21 3 _ rfl; (try simp only [show (k124).sz = 5 from rfl, Nat.mul_one, Nat.add_zero] at hx21_3); have hf21_3 := hfr21 3; (try simp only [show (k124).sz = 5 from rfl, Nat.mul_one, Nat.add_zero] at hf21_3); clear hcl21 hcc21 hfr21 hM21) | ((with_reducible refine gate_store (t := 2) (p := 39) rfl ?_); refine store_event (t := 2) (p := 39) (v := ?vo_w22) (w1 := (w20.setCell ⟨go5, (x5_1 : Int).toNat * 5 + 3, none⟩ (.int .i64 (wrap64 ((wrap64 ((wrap64 (x1_1 + 1)) + 1)) + 1))))) ?hg ?ho ?hn ?hr ?_; (case ho => rfl); (case hg => rfl); (case hn => rfl); (case hr => first | (go_simp; done) | (go_simp; rfl)); intro w22 hw; have hg : w20.grownBy w22 (some go5) := (by rw [hw]; exact HP21.2); have hp_ : Kd.R k124 124 w22 w0.heap.size (fun k_ => (P0_ k_ ∨ w.heap.size ≤ k_)) (.slice (some ⟨go5, 0, none⟩) x0_1.length co12) y347 := (by rw [hw, Ny347.out]; exact HP21.1); clear HP21; have n0_ := Aside0.mk (hp_); have n1_ := Aside0.mk ((by rw [hw]; exact zl (HB.out) GB5.out : Below w0.heap.size w0 w22)); have n2_ := Aside0.mk (Kept.of_grown (S := (fun k_ => P0_ k_)) hg (by exact kt HK.out) (fun k_ e_ => (zC.out.1 k_ e_))); clear zC; clear HB; clear HK; have zC := n0_; have HB := n1_; have HK := n2_; clear n0_ n1_ n2_; clear hg hw hp_; have p11 : 0 ≤ (x5_1 : Int) := of_decide_eq_true (by with_reducible assumption); have q11 : (x5_1 : Int) < ((x0_1.length : Int) : Int) := of_decide_eq_true (by with_reducible assumption); obtain ⟨ce11, hcl11, hM11, hcc11, hfr11⟩ := Kd.R_elem zC.out z124 (x5_1 : Int) p11 q11; obtain rfl := k124_openM hM11; have hx11_0 : w22.cell? ⟨go5, (x5_1 : Int).toNat * 5, none⟩ = some (.int .i64 ((rd_T124 y347 x5_1).f0)) := hcc11 0 _ rfl; have hx11_1 : w22.cell? ⟨go5, (x5_1 : Int).toNat * 5 + 1, none⟩ = some (.string ((rd_T124 y347 x5_1).f1)) := hcc11 1 _ rfl; have hx11_2 : w22.cell? ⟨go5, (x5_1 : Int).toNat * 5 + 2, none⟩ = some (.string ((rd_T124 y347 x5_1).f2)) := hcc11 2 _ rfl; have hx11_3 : w22.cell? ⟨go5, (x5_1 : Int).toNat * 5 + 3, none⟩ = some (.int .i64 ((rd_T124 y347 x5_1).f3)) := hcc11 3 _ rfl; have hx11_4 : w22.cell? ⟨go5, (x5_1 : Int).toNat * 5 + 4, none⟩ = some (.bool ((rd_T124 y347 x5_1).f4)) := hcc11 4 _ rfl; have hf11_0 : w22.frozen? ⟨go5, (x5_1 : Int).toNat * 5, none⟩ = false := hfr11 0; have hf11_1 : w22.frozen? ⟨go5, (x5_1 : Int).toNat * 5 + 1, none⟩ = false := hfr11 1; have hf11_2 : w22.frozen? ⟨go5, (x5_1 : Int).toNat * 5 + 2, none⟩ = false := hfr11 2; have hf11_3 : w22.frozen? ⟨go5, (x5_1 : Int).toNat * 5 + 3, none⟩ = false := hfr11 3; have hf11_4 : w22.frozen? ⟨go5, (x5_1 : Int).toNat * 5 + 4, none⟩ = false := hfr11 4; clear hcl11 hcc11 hfr11 hM11; replace p11 := eq_true p11; replace q11 := eq_true q11; have HX23 := Aside0.mk (show Kd.R k124 124 w22 w0.heap.size (fun k_ => (P0_ k_ ∨ w.heap.size ≤ k_)) (.slice (some ⟨go5, 0, none⟩) x0_1.length co12) y347 from (RL zC.out)); obtain ⟨ce23, hcl23, hM23, hcc23, hfr23⟩ := Kd.R_elem HX23.out z124 (x5_1 : Int) (of_decide_eq_true (by with_reducible assumption)) (by have h_ : (x5_1 : Int) < ((x0_1.length : Int) : Int) := of_decide_eq_true (by with_reducible assumption); first | exact h_ | (have e_ := (Kd.R_reads' zC.out).1; omega) | simpa using h_); obtain rfl := k124_openM hM23; have HP23 := Kd.R_seg HX23.out (x5_1 : Int) (of_decide_eq_true (by with_reducible assumption)) (by have h_ : (x5_1 : Int) < ((x0_1.length : Int) : Int) := of_decide_eq_true (by with_reducible assumption); first | exact h_ | (have e_ := (Kd.R_reads' zC.out).1; omega) | simpa using h_) (seg := [.bool ((Int.tmod (wrap64 ((wrap64 ((wrap64 ((wrap64 (x1_1 + 1)) + 1)) + 1)) + 1)) 3) == 0)]) (j := 4) hcl23 hcc23 (show 5 ≤ 5 from by decide) (x' := (⟨(rd_T124 y347 x5_1).f0, (rd_T124 y347 x5_1).f1, (rd_T124 y347 x5_1).f2, (rd_T124 y347 x5_1).f3, ((Int.tmod (wrap64 ((wrap64 ((wrap64 ((wrap64 (x1_1 + 1)) + 1)) + 1)) + 1)) 3) == 0)⟩ : S124)) (k124_mkM _ _ _ (⟨(rd_T124 y347 x5_1).f0, (rd_T124 y347 x5_1).f1, (rd_T124 y347 x5_1).f2, (rd_T124 y347 x5_1).f3, ((Int.tmod (wrap64 ((wrap64 ((wrap64 ((wrap64 (x1_1 + 1)) + 1)) + 1)) + 1)) 3) == 0)⟩ : S124) ) (fun _ hk => hk); have hx23_4 := hcc23 4 _ rfl; (try simp only [show (k124).sz = 5 from rfl, Nat.mul_one, Nat.add_zero] at hx23_4); have hf23_4 := hfr23 4; (try simp only [show (k124).sz = 5 from rfl, Nat.mul_one, Nat.add_zero] at hf23_4); clear hcl23 hcc23 hfr23 hM23) | ((with_reducible refine gate_store (t := 4) (p := 48) rfl ?_); refine store_event (t := 4) (p := 48) (v := ?vo_w24) (w1 := (w22.setCell ⟨go5, (x5_1 : Int).toNat * 5 + 4, none⟩ (.bool ((Int.tmod (wrap64 ((wrap64 ((wrap64 ((wrap64 (x1_1 + 1)) + 1)) + 1)) + 1)) 3) == 0)))) ?hg ?ho ?hn ?hr ?_; (case ho => rfl); (case hg => rfl); (case hn => rfl); (case hr => first | (go_simp; done) | (go_simp; rfl)); intro w24 hw; have hg : w22.grownBy w24 (some go5) := (by rw [hw]; exact HP23.2); have hp_ : Kd.R k124 124 w24 w0.heap.size (fun k_ => (P0_ k_ ∨ w.heap.size ≤ k_)) (.slice (some ⟨go5, 0, none⟩) x0_1.length co12) y348 := (by rw [hw, Ny348.out]; exact HP23.1); clear HP23; have n0_ := Aside0.mk (hp_); have n1_ := Aside0.mk ((by rw [hw]; exact zl (HB.out) GB5.out : Below w0.heap.size w0 w24)); have n2_ := Aside0.mk (Kept.of_grown (S := (fun k_ => P0_ k_)) hg (by exact kt HK.out) (fun k_ e_ => (zC.out.1 k_ e_))); clear zC; clear HB; clear HK; have zC := n0_; have HB := n1_; have HK := n2_; clear n0_ n1_ n2_; clear hg hw hp_))
     go_roundg k1
     case measure => have := HK1.out; omega
     case rel => exact ⟨(y348), (wrap64 ((wrap64 ((wrap64 ((wrap64 ((wrap64 (x1_1 + 1)) + 1)) + 1)) + 1)) + 1)), (wrap64 (x5_1 + 1)), (by first | rfl | (simp [*]; done)), (by first | rfl | (simp [*]; done)), H', ⟨by have := HK1.out; omega⟩, ⟨RL zC.out⟩, ⟨by repeat (first | (with_reducible first | exact HK.out | apply Kept.alloc | apply Kept.drewN | apply Kept.drew) | exact HK.out)⟩, ⟨by repeat (first | (with_reducible first | exact HB.out | apply zh | apply zd | apply zi) | exact HB.out)⟩⟩
    ·rw [if_neg c4] at H
     exact absurd H (by simp)
   ·rw [if_neg c3] at H
    have c3b0 : decide (x5_1 < (x0_1.length : Int)) = false := decide_eq_false c3
    clear c3
    simp only [Option.some.injEq, Prod.mk.injEq] at H
    obtain ⟨rfl, rfl⟩ := H
    obtain ⟨Ao25, co25, eo25⟩ := Kd.R_slice zC.out
    subst eo25
    go_wp2
    go_ret
    exact ⟨by first | rfl | (simp [*] <;> rfl), RL zC.out, by repeat (first | (with_reducible first | exact HB.out | apply zh | apply zd | apply zi) | exact HB.out), by repeat (first | (with_reducible first | exact HK.out | apply Kept.alloc | apply Kept.drewN | apply Kept.drew) | exact HK.out)⟩

def laws_markRequest.f (k : Nat) (l0_0 : List (S124)) (a1 : Int) : Option (Int × (List (S124))) := (laws_markOpS.f k l0_0 a1).bind fun bt350 => (some (bt350.1, bt350.2))
theorem laws_markRequest.mono : ∀ a0 a1 k, LeO (laws_markRequest.f k a0 a1) (laws_markRequest.f (k + 1) a0 a1) := by
 intro a0 a1 k
 unfold laws_markRequest.f
 repeat' first
   | (with_reducible exact laws_markOpS.mono _ _ _)
   | (with_reducible exact LeO.refl _)
   | (with_reducible exact LeO.none _)
   | (with_reducible refine LeO.ite ?_ ?_)
   | (with_reducible refine LeO.bind ?_ (fun _ => ?_))
   | exact laws_markOpS.mono _ _ _
   | exact LeO.none _
   | refine LeO.ite ?_ ?_
   | refine LeO.bind ?_ (fun _ => ?_)
set_option maxHeartbeats 8000000 in
set_option maxRecDepth 100000 in
theorem laws_markRequest.calls (k : Nat) (P0_0_ : Nat → Prop) (u9000_ : Value) (l0_0 : List (S124)) (a1 : Int) (r1 : Int) (r2 : List (S124)) (w0 w : World) (hB : Below w0.heap.size w0 w) (zF : Kd.R k124 124 w w0.heap.size P0_0_ u9000_ l0_0) (h : laws_markRequest.f k l0_0 a1 = some (r1, r2)) :
  Calls Tryd.prog 81 #[.agg #[u9000_], .int .i64 a1] w fun e w' => e = .returned (.int .i64 r1) ∧ Kd.R k124 124 w' w0.heap.size (fun k_ => (P0_0_ k_ ∨ w.heap.size ≤ k_)) u9000_ r2 ∧ Below w0.heap.size w0 w' ∧ Kept w w' (fun k_ => P0_0_ k_) := by
 have hu63 := Tryd.underlying63
 have zC := Aside0.mk (show Kd.R k124 124 w w0.heap.size (fun k_ => (P0_0_ k_ ∨ w.heap.size ≤ k_)) u9000_ l0_0 from Kd.R_mono zF (fun k_ hk => (.inl hk)))
 have HK := Aside0.mk (Kept.refl w (fun k_ => P0_0_ k_))
 have HW0 := Aside0.mk hB.size
 have HB := Aside0.mk hB
 clear hB
 have H : ((laws_markOpS.f k l0_0 a1).bind fun bt350 => (some (bt350.1, bt350.2))) = some (r1, r2) := h
 clear h
 replace H := Option.bind_eq_some_iff.mp H
 obtain ⟨⟨t350, t351⟩, A30, H⟩ := H
 try dsimp only at H
 have A3 := Aside0.mk A30
 clear A30
 simp only [Option.some.injEq, Prod.mk.injEq] at H
 obtain ⟨rfl, rfl⟩ := H
 obtain ⟨Ao4, co4, eo4⟩ := Kd.R_slice zC.out
 subst eo4
 go_enter Tryd.func81, Tryd.ntmps81
 go_wp2_with (first | ((with_reducible refine zu (N := 2) rfl ?_); refine zz ?hg (N := 2) ?hd (cs := #[.slice Ao4 l0_0.length co4]) (t := 63) ?hr ?_; (case hd => rfl); (case hg => rfl); (case hr => first | (go_simp; done) | (go_simp; rfl)); intro zE hg w5 hbox hb; have n0_ := Aside0.mk (Kd.R_below (RL zC.out) hb); have n1_ := Aside0.mk (Kept.below (S := (fun k_ => P0_0_ k_)) (by exact kt HK.out) hb); have n2_ := Aside0.mk (zm (by exact bl HB.out) hb); have n3_ := Aside0.mk (hbox); have n4_ := Aside0.mk ((by rw [hg]; exact (by first | exact HK.out.1 | exact (show Kept w _ (fun k_ => P0_0_ k_) from by exact kt HK.out).1) : w.heap.size ≤ zE)); have n5_ := Aside0.mk ((by rw [hg]; exact (zn (by exact bl HB.out)) : w0.heap.size ≤ zE)); clear zC; clear HK; clear HB; have zC := n0_; have HK := n1_; have HB := n2_; have zD := n3_; have GW349 := n4_; have zG := n5_; clear n0_ n1_ n2_ n3_ n4_ n5_; clear hb hbox hg; have zH : w5.cell? ⟨zE, 0, none⟩ = some (.slice Ao4 l0_0.length co4) := (zc zD.out 0).trans rfl; have zI := zb zD.out 0) | ((with_reducible refine zo (f := 121) rfl ?_); refine zy (some 8) rfl rfl Tryd.func121 (by kernel_rfl) rfl #[.slice Ao4 l0_0.length co4, .int .i64 a1] rfl (by (try simp only [List.map_toArray, List.map_cons, List.map_nil]); first | done | rfl) ?_; (with_reducible refine (laws_markOpS.calls k (fun k_ => some k_ = (.slice Ao4 l0_0.length co4 : Value).ownBlock) (.slice Ao4 l0_0.length co4) l0_0 a1 t350 t351 w0 _ ?side1 ?side2 A3.out).mono ?_); (case side1 => exact bl HB.out); (case side2 => exact Kd.R_tight rfl zC.out); rintro e w7 ⟨rfl, hy0, hb, hkp⟩; refine ⟨_, rfl, ?_⟩; have n0_ := Aside0.mk (Kd.R_reok rfl hy0 (fun k_ e_ => zC.out.1 k_ e_)); have n1_ := Aside0.mk (blk_kept (BL zD.out) hkp (fun hs_ => (fun e_ => (Kd.R_ne zC.out zD.out (by decide)) e_) hs_)); have n2_ := Aside0.mk (Kept.then_ (S := (fun k_ => P0_0_ k_)) (by exact kt HK.out) hkp (fun k_ hs_ => (fun e_ => (zC.out.1 k_ e_.symm)) hs_)); have n3_ := Aside0.mk (hb); clear zC; clear zD; clear HK; clear HB; have zC := n0_; have zD := n1_; have HK := n2_; have HB := n3_; clear n0_ n1_ n2_ n3_; (try clear hb); (try clear hkp); (try clear hy0)))
 go_ret
 exact ⟨by first | rfl | (simp [*] <;> rfl), RL zC.out, by repeat (first | (with_reducible first | exact HB.out | apply zh | apply zd | apply zi | refine zl ?_ zG.out) | exact HB.out), by repeat (first | (with_reducible first | exact HK.out | apply Kept.alloc | apply Kept.drewN | apply Kept.drew | refine Kept.setCell ?_ (.inr GW349.out) _) | exact HK.out)⟩

def laws_markInt64S.l0 : Nat → List Int → Int → Int → Option (Int × List Int)
 | 0, _, _, _ => none
 | k + 1, x0, x1, x5 => if x5 < (x0.length : Int) then (if 0 ≤ x5 then (laws_markInt64S.l0 k (x0.set (x5 : Int).toNat x1) (wrap64 (x1 + 1)) (wrap64 (x5 + 1))) else (none)) else (some (x1, x0))
def laws_markInt64S.f (k : Nat) (l0 : List Int) (a1 : Int) : Option (Int × List Int) := laws_markInt64S.l0 k l0 a1 0
theorem laws_markInt64S.mono_l : ∀ k, (∀ y0 y1 y2, LeO (laws_markInt64S.l0 k y0 y1 y2) (laws_markInt64S.l0 (k + 1) y0 y1 y2))
 | 0 => fun _ _ _ r h => by simp [laws_markInt64S.l0] at h
 | k + 1 => by
  have ih0 := laws_markInt64S.mono_l k
  ·intro y0 y1 y2
   unfold laws_markInt64S.l0
   repeat' first
   | (with_reducible exact ih0 _ _ _)
   | (with_reducible exact LeO.refl _)
   | (with_reducible exact LeO.none _)
   | (with_reducible refine LeO.ite ?_ ?_)
   | (with_reducible refine LeO.bind ?_ (fun _ => ?_))
   | exact ih0 _ _ _
   | exact LeO.none _
   | refine LeO.ite ?_ ?_
   | refine LeO.bind ?_ (fun _ => ?_)
theorem laws_markInt64S.mono : ∀ a0 a1 k, LeO (laws_markInt64S.f k a0 a1) (laws_markInt64S.f (k + 1) a0 a1) := by
 intro a0 a1 k
 have ih0 := laws_markInt64S.mono_l k
 unfold laws_markInt64S.f
 repeat' first
   | (with_reducible exact ih0 _ _ _)
   | (with_reducible exact LeO.refl _)
   | (with_reducible exact LeO.none _)
   | (with_reducible refine LeO.ite ?_ ?_)
   | (with_reducible refine LeO.bind ?_ (fun _ => ?_))
   | exact ih0 _ _ _
   | exact LeO.none _
   | refine LeO.ite ?_ ?_
   | refine LeO.bind ?_ (fun _ => ?_)
set_option maxHeartbeats 8000000 in
set_option maxRecDepth 100000 in
theorem laws_markInt64S.calls (k : Nat) (P0_ : Nat → Prop) (u9000_ : Value) (l0 : List Int) (a1 : Int) (r1 : Int) (r2 : List Int) (w0 w : World) (hB : Below w0.heap.size w0 w) (zE : Kd.R (Kd.int .i64) 2 w w0.heap.size P0_ u9000_ l0) (h : laws_markInt64S.f k l0 a1 = some (r1, r2)) :
  Calls Tryd.prog 82 #[u9000_, .int .i64 a1] w fun e w' => e = .returned (.int .i64 r1) ∧ Kd.R (Kd.int .i64) 2 w' w0.heap.size (fun k_ => (P0_ k_ ∨ w.heap.size ≤ k_)) u9000_ r2 ∧ Below w0.heap.size w0 w' ∧ Kept w w' (fun k_ => P0_ k_) := by
 have zF := Aside0.mk (show Kd.R (Kd.int .i64) 2 w w0.heap.size (fun k_ => (P0_ k_ ∨ w.heap.size ≤ k_)) u9000_ l0 from Kd.R_mono zE (fun k_ hk => (.inl hk)))
 have HK := Aside0.mk (Kept.refl w (fun k_ => P0_ k_))
 have HW0 := Aside0.mk hB.size
 have HB := Aside0.mk hB
 clear hB
 have H : (laws_markInt64S.l0 k l0 a1 0) = some (r1, r2) := h
 clear h
 have H' := Aside0.mk H
 clear H
 go_enter Tryd.func82, Tryd.ntmps82
 go_wp2
 go_loopg [1, 5] k (fun kq v1 v5 w' => ∃ (x0_1 : List Int) (x1_1 : Int) (x5_1 : Int), v1 = .int .i64 x1_1 ∧ v5 = .int .i64 x5_1 ∧ Aside0 (laws_markInt64S.l0 kq x0_1 x1_1 x5_1 = some (r1, r2)) ∧ Aside0 (kq ≤ k) ∧ Aside0 (Kd.R (Kd.int .i64) 2 w' w0.heap.size (fun k_ => (P0_ k_ ∨ w.heap.size ≤ k_)) u9000_ x0_1) ∧ Aside0 (Kept w w' (fun k_ => P0_ k_)) ∧ Aside0 (Below w0.heap.size w0 w'))
 case atStart => exact ⟨(l0), (a1), (0), (by first | rfl | (simp [*]; done)), (by first | rfl | (simp [*]; done)), H', ⟨Nat.le_refl _⟩, ⟨RL zF.out⟩, ⟨by repeat (first | (with_reducible first | exact HK.out | apply Kept.alloc | apply Kept.drewN | apply Kept.drew) | exact HK.out)⟩, ⟨by repeat (first | (with_reducible first | exact HB.out | apply zh | apply zd | apply zi) | exact HB.out)⟩⟩
 case round =>
  clear H'
  try clear p2
  obtain ⟨x0_1, x1_1, x5_1, rfl, rfl, HA, HK1, zC, HK, HB⟩ := hrel
  cases gk with
  | zero => exact absurd HA.out (by simp [laws_markInt64S.l0])
  | succ k1 =>
   have H := HA.out
   clear HA
   simp only [laws_markInt64S.l0] at H
   by_cases c3 : x5_1 < (x0_1.length : Int)
   ·rw [if_pos c3] at H
    have c3b0 : decide (x5_1 < (x0_1.length : Int)) = true := decide_eq_true c3
    clear c3
    by_cases c4 : 0 ≤ x5_1
    ·rw [if_pos c4] at H
     have c4b0 : decide (0 ≤ x5_1) = true := decide_eq_true c4
     clear c4
     obtain ⟨y352, hy352⟩ : ∃ y_ : List Int, y_ = (x0_1.set (x5_1 : Int).toNat x1_1) := ⟨_, rfl⟩
     replace H : (laws_markInt64S.l0 k1 y352 (wrap64 (x1_1 + 1)) (wrap64 (x5_1 + 1))) = some (r1, r2) := by first | (rw [hy352]; with_reducible exact H) | (have H2_ := (Option.bind_some _ _).symm.trans H; rw [hy352]; with_reducible exact H2_) | (have H2_ := (Option.bind_some _ _).symm.trans H; with_reducible exact H2_) | with_reducible exact H | (rw [hy352]; exact H) | exact H
     have Ny352 := Aside0.mk hy352
     clear hy352
     have H' := Aside0.mk H
     clear H
     obtain ⟨Ao6, co6, eo6⟩ := Kd.R_slice zC.out
     subst eo6
     have p5 : 0 ≤ (x5_1 : Int) := of_decide_eq_true (by with_reducible assumption)
     have q5 : (x5_1 : Int) < ((x0_1.length : Int) : Int) := of_decide_eq_true (by with_reducible assumption)
     obtain ⟨go5, co5, eo5, zD, gl5, cl5, HG5⟩ := Kd.R_form zC.out (by omega)
     (first | cases eo5 | (injection eo5 with ea_ en_ ec_; (first | subst ea_ | (injection ea_ with ea_; subst ea_)); subst ec_; clear en_))
     have GB5 := Aside0.mk zD
     have GG5 := Aside0.mk HG5
     clear zD gl5 HG5
     have HMgo5 := Aside0.mk (show (P0_ go5 ∨ w.heap.size ≤ go5) from (zC.out.1 _ rfl))
     obtain ⟨hx5_0, hf5_0⟩ := Kd.R_celln 0 zC.out (x5_1 : Int) p5 q5
     replace p5 := eq_true p5
     replace q5 := eq_true q5
     have HP7 := Kd.R_putg zC.out (x5_1 : Int) x1_1
     go_wp2_with (first | ((with_reducible refine gate_store (t := 2) (p := 15) rfl ?_); refine store_event (t := 2) (p := 15) (v := ?vo_w8) (w1 := (wr.setCell ⟨go5, (x5_1 : Int).toNat, none⟩ (.int .i64 x1_1))) ?hg ?ho ?hn ?hr ?_; (case ho => rfl); (case hg => rfl); (case hn => rfl); (case hr => first | (go_simp; done) | (go_simp; rfl)); intro w8 hw; have hg : wr.grownBy w8 (some go5) := (by rw [hw]; exact HP7.2); have hp_ : Kd.R (Kd.int .i64) 2 w8 w0.heap.size (fun k_ => (P0_ k_ ∨ w.heap.size ≤ k_)) (.slice (some ⟨go5, 0, none⟩) x0_1.length co6) y352 := (by rw [hw, Ny352.out]; exact HP7.1); clear HP7; have n0_ := Aside0.mk (hp_); have n1_ := Aside0.mk ((by rw [hw]; exact zl (HB.out) GB5.out : Below w0.heap.size w0 w8)); have n2_ := Aside0.mk (Kept.of_grown (S := (fun k_ => P0_ k_)) hg (by exact kt HK.out) (fun k_ e_ => (zC.out.1 k_ e_))); clear zC; clear HB; clear HK; have zC := n0_; have HB := n1_; have HK := n2_; clear n0_ n1_ n2_; clear hg hw hp_))
     go_roundg k1
     case measure => have := HK1.out; omega
     case rel => exact ⟨(y352), (wrap64 (x1_1 + 1)), (wrap64 (x5_1 + 1)), (by first | rfl | (simp [*]; done)), (by first | rfl | (simp [*]; done)), H', ⟨by have := HK1.out; omega⟩, ⟨RL zC.out⟩, ⟨by repeat (first | (with_reducible first | exact HK.out | apply Kept.alloc | apply Kept.drewN | apply Kept.drew) | exact HK.out)⟩, ⟨by repeat (first | (with_reducible first | exact HB.out | apply zh | apply zd | apply zi) | exact HB.out)⟩⟩
    ·rw [if_neg c4] at H
     exact absurd H (by simp)
   ·rw [if_neg c3] at H
    have c3b0 : decide (x5_1 < (x0_1.length : Int)) = false := decide_eq_false c3
    clear c3
    simp only [Option.some.injEq, Prod.mk.injEq] at H
    obtain ⟨rfl, rfl⟩ := H
    obtain ⟨Ao9, co9, eo9⟩ := Kd.R_slice zC.out
    subst eo9
    go_wp2
    go_ret
    exact ⟨by first | rfl | (simp [*] <;> rfl), RL zC.out, by repeat (first | (with_reducible first | exact HB.out | apply zh | apply zd | apply zi) | exact HB.out), by repeat (first | (with_reducible first | exact HK.out | apply Kept.alloc | apply Kept.drewN | apply Kept.drew) | exact HK.out)⟩

def laws_markLine.f (k : Nat) (a0_0 : Int) (l0_1 : List (S124)) (a0_2 : Bool) (a0_3 : ByteArray) (l0_4 : List Int) (a1 : Int) : Option (Int × (List (S124)) × List Int) := (laws_markRequest.f k l0_1 a1).bind fun bt354 => ((laws_markInt64S.f k l0_4 bt354.1).bind fun bt356 => (some (bt356.1, bt354.2, bt356.2)))
theorem laws_markLine.mono : ∀ a0 a1 a2 a3 a4 a5 k, LeO (laws_markLine.f k a0 a1 a2 a3 a4 a5) (laws_markLine.f (k + 1) a0 a1 a2 a3 a4 a5) := by
 intro a0 a1 a2 a3 a4 a5 k
 unfold laws_markLine.f
 repeat' first
   | (with_reducible exact laws_markInt64S.mono _ _ _)
   | (with_reducible exact laws_markRequest.mono _ _ _)
   | (with_reducible exact LeO.refl _)
   | (with_reducible exact LeO.none _)
   | (with_reducible refine LeO.ite ?_ ?_)
   | (with_reducible refine LeO.bind ?_ (fun _ => ?_))
   | exact laws_markInt64S.mono _ _ _
   | exact laws_markRequest.mono _ _ _
   | exact LeO.none _
   | refine LeO.ite ?_ ?_
   | refine LeO.bind ?_ (fun _ => ?_)
set_option maxHeartbeats 8000000 in
set_option maxRecDepth 100000 in
theorem laws_markLine.calls (k : Nat) (a0_0 : Int) (P0_1_ : Nat → Prop) (u9000_ : Value) (l0_1 : List (S124)) (a0_2 : Bool) (a0_3 : ByteArray) (P0_4_ : Nat → Prop) (u9001_ : Value) (l0_4 : List Int) (a1 : Int) (r1 : Int) (r2 : List (S124)) (r3 : List Int) (w0 w : World) (hB : Below w0.heap.size w0 w) (zG : Kd.R k124 124 w w0.heap.size P0_1_ u9000_ l0_1) (zH : Kd.R (Kd.int .i64) 2 w w0.heap.size P0_4_ u9001_ l0_4) (h : laws_markLine.f k a0_0 l0_1 a0_2 a0_3 l0_4 a1 = some (r1, r2, r3)) :
  Calls Tryd.prog 33 #[.agg #[.int .i64 a0_0, u9000_, .bool a0_2, .string a0_3, u9001_], .int .i64 a1] w fun e w' => e = .returned (.int .i64 r1) ∧ Kd.R k124 124 w' w0.heap.size (fun k_ => ((P0_1_ k_ ∨ P0_4_ k_) ∨ w.heap.size ≤ k_)) u9000_ r2 ∧ Kd.R (Kd.int .i64) 2 w' w0.heap.size (fun k_ => ((P0_1_ k_ ∨ P0_4_ k_) ∨ w.heap.size ≤ k_)) u9001_ r3 ∧ Below w0.heap.size w0 w' ∧ Kept w w' (fun k_ => P0_1_ k_ ∨ P0_4_ k_) := by
 have hu66 := Tryd.underlying66
 have hu63 := Tryd.underlying63
 have zD := Aside0.mk (show Kd.R k124 124 w w0.heap.size (fun k_ => ((P0_1_ k_ ∨ P0_4_ k_) ∨ w.heap.size ≤ k_)) u9000_ l0_1 from Kd.R_mono zG (fun k_ hk => (.inl (.inl hk))))
 have zE := Aside0.mk (show Kd.R (Kd.int .i64) 2 w w0.heap.size (fun k_ => ((P0_1_ k_ ∨ P0_4_ k_) ∨ w.heap.size ≤ k_)) u9001_ l0_4 from Kd.R_mono zH (fun k_ hk => (.inl (.inr hk))))
 have HK := Aside0.mk (Kept.refl w (fun k_ => P0_1_ k_ ∨ P0_4_ k_))
 have HW0 := Aside0.mk hB.size
 have HB := Aside0.mk hB
 clear hB
 have H : ((laws_markRequest.f k l0_1 a1).bind fun bt354 => ((laws_markInt64S.f k l0_4 bt354.1).bind fun bt356 => (some (bt356.1, bt354.2, bt356.2)))) = some (r1, r2, r3) := h
 clear h
 replace H := Option.bind_eq_some_iff.mp H
 obtain ⟨⟨t354, t355⟩, A30, H⟩ := H
 try dsimp only at H
 have A3 := Aside0.mk A30
 clear A30
 replace H := Option.bind_eq_some_iff.mp H
 obtain ⟨⟨t356, t357⟩, A40, H⟩ := H
 try dsimp only at H
 have A4 := Aside0.mk A40
 clear A40
 simp only [Option.some.injEq, Prod.mk.injEq] at H
 obtain ⟨rfl, rfl, rfl⟩ := H
 obtain ⟨Ao5, co5, eo5⟩ := Kd.R_slice zD.out
 subst eo5
 obtain ⟨Ao6, co6, eo6⟩ := Kd.R_slice zE.out
 subst eo6
 go_enter Tryd.func33, Tryd.ntmps33
 go_wp2_with (first | ((with_reducible refine zu (N := 2) rfl ?_); refine zz ?hg (N := 2) ?hd (cs := #[.int .i64 a0_0, .slice Ao5 l0_1.length co5, .bool a0_2, .string a0_3, .slice Ao6 l0_4.length co6]) (t := 66) ?hr ?_; (case hd => rfl); (case hg => rfl); (case hr => first | (go_simp; done) | (go_simp; rfl)); intro zF hg w7 hbox hb; have n0_ := Aside0.mk (Kd.R_below (RL zD.out) hb); have n1_ := Aside0.mk (Kd.R_below (RL zE.out) hb); have n2_ := Aside0.mk (Kept.below (S := (fun k_ => P0_1_ k_ ∨ P0_4_ k_)) (by exact kt HK.out) hb); have n3_ := Aside0.mk (zm (by exact bl HB.out) hb); have n4_ := Aside0.mk (hbox); have n5_ := Aside0.mk ((by rw [hg]; exact (by first | exact HK.out.1 | exact (show Kept w _ (fun k_ => P0_1_ k_ ∨ P0_4_ k_) from by exact kt HK.out).1) : w.heap.size ≤ zF)); have n6_ := Aside0.mk ((by rw [hg]; exact (zn (by exact bl HB.out)) : w0.heap.size ≤ zF)); clear zD; clear zE; clear HK; clear HB; have zD := n0_; have zE := n1_; have HK := n2_; have HB := n3_; have zC := n4_; have GW353 := n5_; have zI := n6_; clear n0_ n1_ n2_ n3_ n4_ n5_ n6_; clear hb hbox hg; have zT : w7.cell? ⟨zF, 0, none⟩ = some (.int .i64 a0_0) := (zc zC.out 0).trans rfl; have zU : w7.cell? ⟨zF, 1, none⟩ = some (.slice Ao5 l0_1.length co5) := (zc zC.out 1).trans rfl; have zV : w7.cell? ⟨zF, 2, none⟩ = some (.bool a0_2) := (zc zC.out 2).trans rfl; have zW : w7.cell? ⟨zF, 3, none⟩ = some (.string a0_3) := (zc zC.out 3).trans rfl; have zX : w7.cell? ⟨zF, 4, none⟩ = some (.slice Ao6 l0_4.length co6) := (zc zC.out 4).trans rfl; have zY := zb zC.out 0; have zZ := zb zC.out 1; have zab := zb zC.out 2; have zbb := zb zC.out 3; have zcb := zb zC.out 4) | ((with_reducible refine zo (f := 81) rfl ?_); refine zy (some 8) rfl rfl Tryd.func81 (by kernel_rfl) rfl #[.agg #[.slice Ao5 l0_1.length co5], .int .i64 a1] rfl (by (try simp only [List.map_toArray, List.map_cons, List.map_nil]); first | done | rfl) ?_; (with_reducible refine (laws_markRequest.calls k (fun k_ => some k_ = (.slice Ao5 l0_1.length co5 : Value).ownBlock) (.slice Ao5 l0_1.length co5) l0_1 a1 t354 t355 w0 _ ?side1 ?side2 A3.out).mono ?_); (case side1 => exact bl HB.out); (case side2 => exact Kd.R_tight rfl zD.out); rintro e w9 ⟨rfl, hy0, hb, hkp⟩; refine ⟨_, rfl, ?_⟩; have n0_ := Aside0.mk (Kd.R_reok rfl hy0 (fun k_ e_ => zD.out.1 k_ e_)); have n1_ := Aside0.mk (Kd.R_mono (ok' := fun k_ => ((P0_1_ k_ ∨ P0_4_ k_) ∨ w.heap.size ≤ k_)) (Kd.R_keptB ((Kd.R_apart' zE.out (Kd.R_typed zD.out) (by decide))) hkp (fun k_ hk_ hs_ => by first | exact (hk_.2) hs_ | exact hk_.1 hs_ | exact hk_.2 hs_ | exact hk_.1.1 hs_ | exact hk_.1.2 hs_ | exact hk_.2.1 hs_ | exact hk_.2.2 hs_)) (fun k_ hk_ => by first | exact hk_.1.1 | exact hk_.1 | exact ⟨hk_.1.1, hk_.1.2⟩ | exact ⟨hk_.1.2, hk_.1.1⟩ | exact hk_.1.1 | exact hk_.1.2)); have n2_ := Aside0.mk (blk_kept (BL zC.out) hkp (fun hs_ => (fun e_ => (Kd.R_ne zD.out zC.out (by decide)) e_) hs_)); have n3_ := Aside0.mk (Kept.then_ (S := (fun k_ => P0_1_ k_ ∨ P0_4_ k_)) (by exact kt HK.out) hkp (fun k_ hs_ => (fun e_ => (zD.out.1 k_ e_.symm)) hs_)); have n4_ := Aside0.mk (hb); clear zD; clear zE; clear zC; clear HK; clear HB; have zD := n0_; have zE := n1_; have zC := n2_; have HK := n3_; have HB := n4_; clear n0_ n1_ n2_ n3_ n4_; (try clear hb); (try clear hkp); (try clear hy0); have zJ : w9.cell? ⟨zF, 0, none⟩ = some (.int .i64 a0_0) := (zc zC.out 0).trans rfl; have zK : w9.cell? ⟨zF, 1, none⟩ = some (.slice Ao5 l0_1.length co5) := (zc zC.out 1).trans rfl; have zL : w9.cell? ⟨zF, 2, none⟩ = some (.bool a0_2) := (zc zC.out 2).trans rfl; have zM : w9.cell? ⟨zF, 3, none⟩ = some (.string a0_3) := (zc zC.out 3).trans rfl; have zN : w9.cell? ⟨zF, 4, none⟩ = some (.slice Ao6 l0_4.length co6) := (zc zC.out 4).trans rfl; have zO := zb zC.out 0; have zP := zb zC.out 1; have zQ := zb zC.out 2; have zR := zb zC.out 3; have zS := zb zC.out 4) | ((with_reducible refine zo (f := 82) rfl ?_); refine zy (some 12) rfl rfl Tryd.func82 (by kernel_rfl) rfl #[.slice Ao6 l0_4.length co6, .int .i64 t354] rfl (by (try simp only [List.map_toArray, List.map_cons, List.map_nil]); first | done | rfl) ?_; (with_reducible refine (laws_markInt64S.calls k (fun k_ => some k_ = (.slice Ao6 l0_4.length co6 : Value).ownBlock) (.slice Ao6 l0_4.length co6) l0_4 t354 t356 t357 w0 _ ?side1 ?side2 A4.out).mono ?_); (case side1 => exact bl HB.out); (case side2 => exact Kd.R_tight rfl zE.out); rintro e w11 ⟨rfl, hy0, hb, hkp⟩; refine ⟨_, rfl, ?_⟩; have n0_ := Aside0.mk (Kd.R_mono (ok' := fun k_ => ((P0_1_ k_ ∨ P0_4_ k_) ∨ w.heap.size ≤ k_)) (Kd.R_keptB ((Kd.R_apart' zD.out (Kd.R_typed zE.out) (by decide))) hkp (fun k_ hk_ hs_ => by first | exact (hk_.2) hs_ | exact hk_.1 hs_ | exact hk_.2 hs_ | exact hk_.1.1 hs_ | exact hk_.1.2 hs_ | exact hk_.2.1 hs_ | exact hk_.2.2 hs_)) (fun k_ hk_ => by first | exact hk_.1.1 | exact hk_.1 | exact ⟨hk_.1.1, hk_.1.2⟩ | exact ⟨hk_.1.2, hk_.1.1⟩ | exact hk_.1.1 | exact hk_.1.2)); have n1_ := Aside0.mk (Kd.R_reok rfl hy0 (fun k_ e_ => zE.out.1 k_ e_)); have n2_ := Aside0.mk (blk_kept (BL zC.out) hkp (fun hs_ => (fun e_ => (Kd.R_ne zE.out zC.out (by decide)) e_) hs_)); have n3_ := Aside0.mk (Kept.then_ (S := (fun k_ => P0_1_ k_ ∨ P0_4_ k_)) (by exact kt HK.out) hkp (fun k_ hs_ => (fun e_ => (zE.out.1 k_ e_.symm)) hs_)); have n4_ := Aside0.mk (hb); clear zD; clear zE; clear zC; clear HK; clear HB; have zD := n0_; have zE := n1_; have zC := n2_; have HK := n3_; have HB := n4_; clear n0_ n1_ n2_ n3_ n4_; (try clear hb); (try clear hkp); (try clear hy0)))
 go_ret
 exact ⟨by first | rfl | (simp [*] <;> rfl), RL zD.out, RL zE.out, by repeat (first | (with_reducible first | exact HB.out | apply zh | apply zd | apply zi | refine zl ?_ zI.out) | exact HB.out), by repeat (first | (with_reducible first | exact HK.out | apply Kept.alloc | apply Kept.drewN | apply Kept.drew | refine Kept.setCell ?_ (.inr GW353.out) _) | exact HK.out)⟩

def laws_heldOpS.l0 : Nat → List (S124) → Int → Int → Option (Int)
 | 0, _, _, _ => none
 | k + 1, x0, x1, x5 => if x5 < (x0.length : Int) then (if 0 ≤ x5 then (if ((rd_T124 x0 x5).f0) = x1 then ((laws_markText.f k (wrap64 (x1 + 1))).bind fun t360 => (if ((rd_T124 x0 x5).f1).toList = t360.toList then ((laws_markText.f k (wrap64 ((wrap64 (x1 + 1)) + 1))).bind fun t362 => (if ((rd_T124 x0 x5).f2).toList = t362.toList then (if ((rd_T124 x0 x5).f3) = (wrap64 ((wrap64 ((wrap64 (x1 + 1)) + 1)) + 1)) then (if (((rd_T124 x0 x5).f4) != ((Int.tmod (wrap64 ((wrap64 ((wrap64 ((wrap64 (x1 + 1)) + 1)) + 1)) + 1)) 3) == 0)) = true then none else (laws_heldOpS.l0 k x0 (wrap64 ((wrap64 ((wrap64 ((wrap64 ((wrap64 (x1 + 1)) + 1)) + 1)) + 1)) + 1)) (wrap64 (x5 + 1)))) else none) else none)) else none)) else none) else (none)) else (some x1)
def laws_heldOpS.f (k : Nat) (l0 : List (S124)) (a1 : Int) : Option (Int) := laws_heldOpS.l0 k l0 a1 0
theorem laws_heldOpS.mono_l : ∀ k, (∀ y0 y1 y2, LeO (laws_heldOpS.l0 k y0 y1 y2) (laws_heldOpS.l0 (k + 1) y0 y1 y2))
 | 0 => fun _ _ _ r h => by simp [laws_heldOpS.l0] at h
 | k + 1 => by
  have ih0 := laws_heldOpS.mono_l k
  ·intro y0 y1 y2
   unfold laws_heldOpS.l0
   repeat' first
   | (with_reducible exact ih0 _ _ _)
   | (with_reducible exact laws_markText.mono _ _)
   | (with_reducible exact LeO.refl _)
   | (with_reducible exact LeO.none _)
   | (with_reducible refine LeO.ite ?_ ?_)
   | (with_reducible refine LeO.bind ?_ (fun _ => ?_))
   | exact ih0 _ _ _
   | exact laws_markText.mono _ _
   | exact LeO.none _
   | refine LeO.ite ?_ ?_
   | refine LeO.bind ?_ (fun _ => ?_)
theorem laws_heldOpS.mono : ∀ a0 a1 k, LeO (laws_heldOpS.f k a0 a1) (laws_heldOpS.f (k + 1) a0 a1) := by
 intro a0 a1 k
 have ih0 := laws_heldOpS.mono_l k
 unfold laws_heldOpS.f
 repeat' first
   | (with_reducible exact ih0 _ _ _)
   | (with_reducible exact laws_markText.mono _ _)
   | (with_reducible exact LeO.refl _)
   | (with_reducible exact LeO.none _)
   | (with_reducible refine LeO.ite ?_ ?_)
   | (with_reducible refine LeO.bind ?_ (fun _ => ?_))
   | exact ih0 _ _ _
   | exact laws_markText.mono _ _
   | exact LeO.none _
   | refine LeO.ite ?_ ?_
   | refine LeO.bind ?_ (fun _ => ?_)
def laws_heldOpS.T7 : Bool × List (List Nat × List Nat) := (true, [([], []), ([], []), ([0, 1], [0, 1]), ([2], [2]), ([3], [3]), ([], []), ([5], [5]), ([4, 6], [4, 6])])
def laws_heldOpS.B7 : List Nat := [0, 0, 3, 7, 15, 0, 32, 127]
theorem laws_heldOpS.tab7 : rtab .any (opsOf Tryd.f122 7) = laws_heldOpS.T7 := by kernel_rfl
theorem laws_heldOpS.bits7 : waitsOk laws_heldOpS.T7.2 laws_heldOpS.B7 = true := by kernel_rfl
def laws_heldOpS.T10 : Bool × List (List Nat × List Nat) := (true, [([], []), ([], []), ([0, 1], [0, 1]), ([2], [2]), ([3], [3]), ([], []), ([5], [5]), ([4, 6], [4, 6])])
def laws_heldOpS.B10 : List Nat := [0, 0, 3, 7, 15, 0, 32, 127]
theorem laws_heldOpS.tab10 : rtab .any (opsOf Tryd.f122 10) = laws_heldOpS.T10 := by kernel_rfl
theorem laws_heldOpS.bits10 : waitsOk laws_heldOpS.T10.2 laws_heldOpS.B10 = true := by kernel_rfl
set_option maxHeartbeats 8000000 in
set_option maxRecDepth 100000 in
theorem laws_heldOpS.calls (k : Nat) (A0 : Option Addr) (c0 : Nat) (l0 : List (S124)) (a1 : Int) (r : Int) (w : World) (hr0 : Kd.C k124 w A0 l0.length l0) (hc0 : l0.length ≤ c0) (h : laws_heldOpS.f k l0 a1 = some r) :
  Calls Tryd.prog 122 #[.slice A0 l0.length c0, .int .i64 a1] w fun e w' => e = .returned (.int .i64 r) ∧ Below w.heap.size w w' := by
 have HR0 := Aside0.mk hr0
 have HC0 := Aside0.mk hc0
 clear hr0 hc0
 have HB := Aside0.mk (Below.refl w.heap.size w)
 have H : (laws_heldOpS.l0 k l0 a1 0) = some r := h
 clear h
 have H' := Aside0.mk H
 clear H
 go_enter Tryd.func122, Tryd.ntmps122
 go_wp2
 go_loopg [1, 5] k (fun kq v1 v5 w' => ∃ (x1_1 : Int) (x5_1 : Int), v1 = .int .i64 x1_1 ∧ v5 = .int .i64 x5_1 ∧ Aside0 (laws_heldOpS.l0 kq l0 x1_1 x5_1 = some r) ∧ Aside0 (kq ≤ k) ∧ Aside0 (Below w.heap.size w w'))
 case atStart => exact ⟨(a1), (0), (by first | rfl | (simp [*]; done)), (by first | rfl | (simp [*]; done)), H', ⟨Nat.le_refl _⟩, ⟨by repeat (first | (with_reducible first | exact HB.out | apply zh | apply zd | apply zi) | exact HB.out)⟩⟩
 case round =>
  clear H'
  try clear c1
  try clear p2
  obtain ⟨x1_1, x5_1, rfl, rfl, HA, HK1, HB⟩ := hrel
  cases gk with
  | zero => exact absurd HA.out (by simp [laws_heldOpS.l0])
  | succ k1 =>
   have H := HA.out
   clear HA
   simp only [laws_heldOpS.l0] at H
   by_cases c3 : x5_1 < (l0.length : Int)
   ·rw [if_pos c3] at H
    have c3b0 : decide (x5_1 < (l0.length : Int)) = true := decide_eq_true c3
    clear c3
    by_cases c4 : 0 ≤ x5_1
    ·rw [if_pos c4] at H
     have c4b0 : decide (0 ≤ x5_1) = true := decide_eq_true c4
     clear c4
     by_cases c5 : ((rd_T124 l0 x5_1).f0) = x1_1
     ·rw [if_pos c5] at H
      have c5b0 : (((rd_T124 l0 x5_1).f0) == x1_1) = true := beq_iff_eq.mpr c5
      have c5b1 : (((rd_T124 l0 x5_1).f0) != x1_1) = false := bne_eq_false_iff_eq.mpr c5
      clear c5
      replace H := Option.bind_eq_some_iff.mp H
      obtain ⟨t360, A60, H⟩ := H
      try dsimp only at H
      have A6 := Aside0.mk A60
      clear A60
      by_cases c7 : ((rd_T124 l0 x5_1).f1).toList = t360.toList
      ·rw [if_pos c7] at H
       have c7b0 : (((rd_T124 l0 x5_1).f1).toList == t360.toList) = true := beq_iff_eq.mpr c7
       have c7b1 : (((rd_T124 l0 x5_1).f1).toList != t360.toList) = false := bne_eq_false_iff_eq.mpr c7
       clear c7
       replace H := Option.bind_eq_some_iff.mp H
       obtain ⟨t362, A80, H⟩ := H
       try dsimp only at H
       have A8 := Aside0.mk A80
       clear A80
       by_cases c9 : ((rd_T124 l0 x5_1).f2).toList = t362.toList
       ·rw [if_pos c9] at H
        have c9b0 : (((rd_T124 l0 x5_1).f2).toList == t362.toList) = true := beq_iff_eq.mpr c9
        have c9b1 : (((rd_T124 l0 x5_1).f2).toList != t362.toList) = false := bne_eq_false_iff_eq.mpr c9
        clear c9
        by_cases c10 : ((rd_T124 l0 x5_1).f3) = (wrap64 ((wrap64 ((wrap64 (x1_1 + 1)) + 1)) + 1))
        ·rw [if_pos c10] at H
         have c10b0 : (((rd_T124 l0 x5_1).f3) == (wrap64 ((wrap64 ((wrap64 (x1_1 + 1)) + 1)) + 1))) = true := beq_iff_eq.mpr c10
         have c10b1 : (((rd_T124 l0 x5_1).f3) != (wrap64 ((wrap64 ((wrap64 (x1_1 + 1)) + 1)) + 1))) = false := bne_eq_false_iff_eq.mpr c10
         clear c10
         by_cases c11 : (((rd_T124 l0 x5_1).f4) != ((Int.tmod (wrap64 ((wrap64 ((wrap64 ((wrap64 (x1_1 + 1)) + 1)) + 1)) + 1)) 3) == 0)) = true
         ·rw [if_pos c11] at H
          have c11b0 : (((rd_T124 l0 x5_1).f4) != ((Int.tmod (wrap64 ((wrap64 ((wrap64 ((wrap64 (x1_1 + 1)) + 1)) + 1)) + 1)) 3) == 0)) = true := c11
          (try (have c11b1 : decide (((rd_T124 l0 x5_1).f4) = ((Int.tmod (wrap64 ((wrap64 ((wrap64 ((wrap64 (x1_1 + 1)) + 1)) + 1)) + 1)) 3) == 0)) = false := by simpa using c11))
          (try (have c11b2 : (((rd_T124 l0 x5_1).f4) == ((Int.tmod (wrap64 ((wrap64 ((wrap64 ((wrap64 (x1_1 + 1)) + 1)) + 1)) + 1)) 3) == 0)) = false := by simpa using c11))
          (try (have c11b3 : ¬ (((rd_T124 l0 x5_1).f4) = ((Int.tmod (wrap64 ((wrap64 ((wrap64 ((wrap64 (x1_1 + 1)) + 1)) + 1)) + 1)) 3) == 0)) := by simpa using c11))
          clear c11
          exact absurd H (by simp)
         ·rw [if_neg c11] at H
          have c11b0 : (((rd_T124 l0 x5_1).f4) != ((Int.tmod (wrap64 ((wrap64 ((wrap64 ((wrap64 (x1_1 + 1)) + 1)) + 1)) + 1)) 3) == 0)) = false := by simpa using c11
          (try (have c11b1 : decide (((rd_T124 l0 x5_1).f4) = ((Int.tmod (wrap64 ((wrap64 ((wrap64 ((wrap64 (x1_1 + 1)) + 1)) + 1)) + 1)) 3) == 0)) = true := by simpa using c11))
          (try (have c11b2 : (((rd_T124 l0 x5_1).f4) == ((Int.tmod (wrap64 ((wrap64 ((wrap64 ((wrap64 (x1_1 + 1)) + 1)) + 1)) + 1)) 3) == 0)) = true := by simpa using c11))
          clear c11
          have H' := Aside0.mk H
          clear H
          have p358 : 0 ≤ (x5_1 : Int) := of_decide_eq_true (by with_reducible assumption)
          have q358 : x5_1 < (l0.length : Int) := of_decide_eq_true (by with_reducible assumption)
          obtain ⟨ad358, e358, hx358_0, hx358_1, hx358_2, hx358_3, hx358_4⟩ := at_T124 (Kd.C_below HR0.out HB.out) x5_1 p358 q358
          cases e358
          replace p358 := eq_true p358
          replace q358 := eq_true q358
          try go_wp2
          have n0_ := Aside0.mk (zi HB.out)
          clear HB
          have HB := n0_
          clear n0_
          have p359 : 0 ≤ (x5_1 : Int) := of_decide_eq_true (by with_reducible assumption)
          have q359 : x5_1 < (l0.length : Int) := of_decide_eq_true (by with_reducible assumption)
          obtain ⟨ad359, e359, hx359_0, hx359_1, hx359_2, hx359_3, hx359_4⟩ := at_T124 HR0.out x5_1 p359 q359
          have hw359_4 := hx359_4
          have hw359_3 := hx359_3
          have hw359_2 := hx359_2
          have hw359_1 := hx359_1
          have hw359_0 := hx359_0
          obtain rfl : ad358 = ad359 := (by injection e359)
          replace hx359_0 := zk HB.out hx359_0
          replace hx359_1 := zk HB.out hx359_1
          replace hx359_2 := zk HB.out hx359_2
          replace hx359_3 := zk HB.out hx359_3
          replace hx359_4 := zk HB.out hx359_4
          replace p359 := eq_true p359
          replace q359 := eq_true q359
          refine start_ (n := 8) (S := fun w' => e124 w' (ad358.add ((x5_1).toNat * 5)) (rd_T124 l0 x5_1)) (ds := []) #[false, false, false, false, false, false, false, false] (by kernel_rfl) rfl rfl ⟨(zk HB.out hw359_0), (zk HB.out hw359_1), (zk HB.out hw359_2), (zk HB.out hw359_3), (zk HB.out hw359_4)⟩ (fun hHeld => ?_); refine with_tabW laws_heldOpS.tab7 laws_heldOpS.bits7 (fun HT_ HW_ => ?_)
          generalize wr.drew = w16 at HB hx359_0 hx359_1 hx359_2 hx359_3 hx359_4 hHeld ⊢
          refine pu 0 21 rfl rfl (any_of HT_.out (by kernel_rfl)) (fun _ _ _ _ h => h) (by rfl) ⟨_, _, fun w' => by go_simp; rfl, by simp only [pt, ps, p0, p1, zr, zt]; rfl, ?_⟩
          refine pu 1 22 rfl rfl (any_of HT_.out (by kernel_rfl)) (fun _ _ _ _ h => h) (by rfl) ⟨_, _, fun w' => by go_simp; rfl, by simp only [pt, ps, p0, p1, zr, zt]; rfl, ?_⟩
          refine pu 2 23 rfl rfl (any_of HT_.out (by kernel_rfl)) (fun _ _ _ _ h => h) (by rfl) ⟨_, _, fun w' => by go_simp; rfl, by simp only [pt, ps, p0, p1, zr, zt]; rfl, ?_⟩
          refine pu 3 24 rfl rfl (any_of HT_.out (by kernel_rfl)) (fun _ _ _ _ h => h) (by rfl) ⟨_, _, fun w' => by go_simp; rfl, by simp only [pt, ps, p0, p1, zr, zt]; rfl, ?_⟩
          refine pu 5 26 rfl rfl (any_of HT_.out (by kernel_rfl)) (fun _ _ _ _ h => h) (by rfl) ⟨_, _, fun w' => by go_simp; rfl, by simp only [pt, ps, p0, p1, zr, zt]; rfl, ?_⟩
          refine ta 4 25 rfl rfl (take_ofW HT_.out HW_.out (by kernel_rfl)) (fun _ _ _ _ h => h) (by rfl) hHeld ⟨_, _, by rintro w' ⟨s0, s1, s2, s3, s4⟩; go_simp; rfl, by simp only [pt, ps, p0, p1, zr, zt]; rfl, ?_⟩
          refine one_ (i := 6) (N := some 27) #[true, true, true, true, true, true, true, false] rfl rfl (one_of HT_.out (by kernel_rfl)) (by decide) (fun K hK => ?_)
          refine goes_ Tryd.func110 (by kernel_rfl) rfl #[.int .i64 (wrap64 (x1_1 + 1))] (by rfl) rfl rfl (by (try simp only [List.map_toArray, List.map_cons, List.map_nil]); first | done | rfl) ?_
          with_reducible refine (laws_markText.calls k1 (wrap64 (x1_1 + 1)) t360 _ A6.out).mono ?_
          rintro e w17 ⟨rfl, hb⟩
          refine ⟨_, rfl, ?_⟩
          have n0_ := Aside0.mk (zm (by repeat (first | (with_reducible first | exact HB.out | apply zh | apply zd | apply zi) | exact HB.out)) hb)
          clear HB
          have HB := n0_
          clear n0_
          (try clear hb)
          (try clear hb2)
          (try clear hk)
          (try clear hi)
          refine hK.out _ _ ⟨(zk HB.out hw359_0), (zk HB.out hw359_1), (zk HB.out hw359_2), (zk HB.out hw359_3), (zk HB.out hw359_4)⟩ (fun hHeld => ?_)
          clear hK K
          refine norm_ (a' := ?_) ?_ ?_
          rotate_left
          ·show Act.put _ (some 27) _ = _
           simp only [pt, ps, p0, p1, zr, zt]
           rfl
          refine pu 7 28 rfl rfl (any_of HT_.out (by kernel_rfl)) (fun _ _ _ _ h => h) (by rfl) ⟨_, _, fun w' => by go_simp; rfl, by simp only [pt, ps, p0, p1, zr, zt]; rfl, ?_⟩
          refine done_ (done_of HT_.out (by kernel_rfl)) ?_
          try go_wp2
          have n0_ := Aside0.mk (zi HB.out)
          clear HB
          have HB := n0_
          clear n0_
          have p361 : 0 ≤ (x5_1 : Int) := of_decide_eq_true (by with_reducible assumption)
          have q361 : x5_1 < (l0.length : Int) := of_decide_eq_true (by with_reducible assumption)
          obtain ⟨ad361, e361, hx361_0, hx361_1, hx361_2, hx361_3, hx361_4⟩ := at_T124 HR0.out x5_1 p361 q361
          have hw361_4 := hx361_4
          have hw361_3 := hx361_3
          have hw361_2 := hx361_2
          have hw361_1 := hx361_1
          have hw361_0 := hx361_0
          obtain rfl : ad358 = ad361 := (by injection e361)
          replace hx361_0 := zk HB.out hx361_0
          replace hx361_1 := zk HB.out hx361_1
          replace hx361_2 := zk HB.out hx361_2
          replace hx361_3 := zk HB.out hx361_3
          replace hx361_4 := zk HB.out hx361_4
          replace p361 := eq_true p361
          replace q361 := eq_true q361
          refine start_ (n := 8) (S := fun w' => e124 w' (ad358.add ((x5_1).toNat * 5)) (rd_T124 l0 x5_1)) (ds := []) #[false, false, false, false, false, false, false, false] (by kernel_rfl) rfl rfl ⟨(zk HB.out hw361_0), (zk HB.out hw361_1), (zk HB.out hw361_2), (zk HB.out hw361_3), (zk HB.out hw361_4)⟩ (fun hHeld => ?_); refine with_tabW laws_heldOpS.tab10 laws_heldOpS.bits10 (fun HT_ HW_ => ?_)
          generalize w17.drew = w18 at HB hx361_0 hx361_1 hx361_2 hx361_3 hx361_4 hHeld ⊢
          refine pu 0 31 rfl rfl (any_of HT_.out (by kernel_rfl)) (fun _ _ _ _ h => h) (by rfl) ⟨_, _, fun w' => by go_simp; rfl, by simp only [pt, ps, p0, p1, zr, zt]; rfl, ?_⟩
          refine pu 1 32 rfl rfl (any_of HT_.out (by kernel_rfl)) (fun _ _ _ _ h => h) (by rfl) ⟨_, _, fun w' => by go_simp; rfl, by simp only [pt, ps, p0, p1, zr, zt]; rfl, ?_⟩
          refine pu 2 33 rfl rfl (any_of HT_.out (by kernel_rfl)) (fun _ _ _ _ h => h) (by rfl) ⟨_, _, fun w' => by go_simp; rfl, by simp only [pt, ps, p0, p1, zr, zt]; rfl, ?_⟩
          refine pu 3 34 rfl rfl (any_of HT_.out (by kernel_rfl)) (fun _ _ _ _ h => h) (by rfl) ⟨_, _, fun w' => by go_simp; rfl, by simp only [pt, ps, p0, p1, zr, zt]; rfl, ?_⟩
          refine pu 5 36 rfl rfl (any_of HT_.out (by kernel_rfl)) (fun _ _ _ _ h => h) (by rfl) ⟨_, _, fun w' => by go_simp; rfl, by simp only [pt, ps, p0, p1, zr, zt]; rfl, ?_⟩
          refine ta 4 35 rfl rfl (take_ofW HT_.out HW_.out (by kernel_rfl)) (fun _ _ _ _ h => h) (by rfl) hHeld ⟨_, _, by rintro w' ⟨s0, s1, s2, s3, s4⟩; go_simp; rfl, by simp only [pt, ps, p0, p1, zr, zt]; rfl, ?_⟩
          refine one_ (i := 6) (N := some 37) #[true, true, true, true, true, true, true, false] rfl rfl (one_of HT_.out (by kernel_rfl)) (by decide) (fun K hK => ?_)
          refine goes_ Tryd.func110 (by kernel_rfl) rfl #[.int .i64 (wrap64 ((wrap64 (x1_1 + 1)) + 1))] (by rfl) rfl rfl (by (try simp only [List.map_toArray, List.map_cons, List.map_nil]); first | done | rfl) ?_
          with_reducible refine (laws_markText.calls k1 (wrap64 ((wrap64 (x1_1 + 1)) + 1)) t362 _ A8.out).mono ?_
          rintro e w19 ⟨rfl, hb⟩
          refine ⟨_, rfl, ?_⟩
          have n0_ := Aside0.mk (zm (by repeat (first | (with_reducible first | exact HB.out | apply zh | apply zd | apply zi) | exact HB.out)) hb)
          clear HB
          have HB := n0_
          clear n0_
          (try clear hb)
          (try clear hb2)
          (try clear hk)
          (try clear hi)
          refine hK.out _ _ ⟨(zk HB.out hw361_0), (zk HB.out hw361_1), (zk HB.out hw361_2), (zk HB.out hw361_3), (zk HB.out hw361_4)⟩ (fun hHeld => ?_)
          clear hK K
          refine norm_ (a' := ?_) ?_ ?_
          rotate_left
          ·show Act.put _ (some 37) _ = _
           simp only [pt, ps, p0, p1, zr, zt]
           rfl
          refine pu 7 38 rfl rfl (any_of HT_.out (by kernel_rfl)) (fun _ _ _ _ h => h) (by rfl) ⟨_, _, fun w' => by go_simp; rfl, by simp only [pt, ps, p0, p1, zr, zt]; rfl, ?_⟩
          refine done_ (done_of HT_.out (by kernel_rfl)) ?_
          have p363 : 0 ≤ (x5_1 : Int) := of_decide_eq_true (by with_reducible assumption)
          have q363 : x5_1 < (l0.length : Int) := of_decide_eq_true (by with_reducible assumption)
          obtain ⟨ad363, e363, hx363_0, hx363_1, hx363_2, hx363_3, hx363_4⟩ := at_T124 HR0.out x5_1 p363 q363
          obtain rfl : ad358 = ad363 := (by injection e363)
          replace hx363_0 := zk HB.out hx363_0
          replace hx363_1 := zk HB.out hx363_1
          replace hx363_2 := zk HB.out hx363_2
          replace hx363_3 := zk HB.out hx363_3
          replace hx363_4 := zk HB.out hx363_4
          replace p363 := eq_true p363
          replace q363 := eq_true q363
          have p364 : 0 ≤ (x5_1 : Int) := of_decide_eq_true (by with_reducible assumption)
          have q364 : x5_1 < (l0.length : Int) := of_decide_eq_true (by with_reducible assumption)
          obtain ⟨ad364, e364, hx364_0, hx364_1, hx364_2, hx364_3, hx364_4⟩ := at_T124 HR0.out x5_1 p364 q364
          obtain rfl : ad358 = ad364 := (by injection e364)
          replace hx364_0 := zk HB.out hx364_0
          replace hx364_1 := zk HB.out hx364_1
          replace hx364_2 := zk HB.out hx364_2
          replace hx364_3 := zk HB.out hx364_3
          replace hx364_4 := zk HB.out hx364_4
          replace p364 := eq_true p364
          replace q364 := eq_true q364
          try go_wp2
          go_roundg k1
          case measure => have := HK1.out; omega
          case rel => exact ⟨(wrap64 ((wrap64 ((wrap64 ((wrap64 ((wrap64 (x1_1 + 1)) + 1)) + 1)) + 1)) + 1)), (wrap64 (x5_1 + 1)), (by first | rfl | (simp [*]; done)), (by first | rfl | (simp [*]; done)), H', ⟨by have := HK1.out; omega⟩, ⟨by repeat (first | (with_reducible first | exact HB.out | apply zh | apply zd | apply zi) | exact HB.out)⟩⟩
        ·rw [if_neg c10] at H
         have c10b0 : (((rd_T124 l0 x5_1).f3) == (wrap64 ((wrap64 ((wrap64 (x1_1 + 1)) + 1)) + 1))) = false := beq_eq_false_iff_ne.mpr c10
         have c10b1 : (((rd_T124 l0 x5_1).f3) != (wrap64 ((wrap64 ((wrap64 (x1_1 + 1)) + 1)) + 1))) = true := bne_iff_ne.mpr c10
         exact absurd H (by simp)
       ·rw [if_neg c9] at H
        have c9b0 : (((rd_T124 l0 x5_1).f2).toList == t362.toList) = false := beq_eq_false_iff_ne.mpr c9
        have c9b1 : (((rd_T124 l0 x5_1).f2).toList != t362.toList) = true := bne_iff_ne.mpr c9
        exact absurd H (by simp)
      ·rw [if_neg c7] at H
       have c7b0 : (((rd_T124 l0 x5_1).f1).toList == t360.toList) = false := beq_eq_false_iff_ne.mpr c7
       have c7b1 : (((rd_T124 l0 x5_1).f1).toList != t360.toList) = true := bne_iff_ne.mpr c7
       exact absurd H (by simp)
     ·rw [if_neg c5] at H
      have c5b0 : (((rd_T124 l0 x5_1).f0) == x1_1) = false := beq_eq_false_iff_ne.mpr c5
      have c5b1 : (((rd_T124 l0 x5_1).f0) != x1_1) = true := bne_iff_ne.mpr c5
      exact absurd H (by simp)
    ·rw [if_neg c4] at H
     exact absurd H (by simp)
   ·rw [if_neg c3] at H
    have c3b0 : decide (x5_1 < (l0.length : Int)) = false := decide_eq_false c3
    clear c3
    obtain rfl := Option.some.inj H
    go_wp2
    go_ret
    exact ⟨by first | rfl | (simp [*] <;> rfl), by repeat (first | (with_reducible first | exact HB.out | apply zh | apply zd | apply zi) | exact HB.out)⟩

def laws_heldRequest.f (k : Nat) (l0_0 : List (S124)) (a1 : Int) : Option (Int) := (laws_heldOpS.f k l0_0 a1).bind fun t366 => (if t366 < 0 then none else (some t366))
theorem laws_heldRequest.mono : ∀ a0 a1 k, LeO (laws_heldRequest.f k a0 a1) (laws_heldRequest.f (k + 1) a0 a1) := by
 intro a0 a1 k
 unfold laws_heldRequest.f
 repeat' first
   | (with_reducible exact laws_heldOpS.mono _ _ _)
   | (with_reducible exact LeO.refl _)
   | (with_reducible exact LeO.none _)
   | (with_reducible refine LeO.ite ?_ ?_)
   | (with_reducible refine LeO.bind ?_ (fun _ => ?_))
   | exact laws_heldOpS.mono _ _ _
   | exact LeO.none _
   | refine LeO.ite ?_ ?_
   | refine LeO.bind ?_ (fun _ => ?_)
set_option maxHeartbeats 8000000 in
set_option maxRecDepth 100000 in
theorem laws_heldRequest.calls (k : Nat) (A0_0 : Option Addr) (c0_0 : Nat) (l0_0 : List (S124)) (a1 : Int) (r : Int) (w : World) (hr0_0 : Kd.C k124 w A0_0 l0_0.length l0_0) (hc0_0 : l0_0.length ≤ c0_0) (h : laws_heldRequest.f k l0_0 a1 = some r) :
  Calls Tryd.prog 83 #[.agg #[.slice A0_0 l0_0.length c0_0], .int .i64 a1] w fun e w' => e = .returned (.int .i64 r) ∧ Below w.heap.size w w' := by
 have hu63 := Tryd.underlying63
 have HR0_0 := Aside0.mk hr0_0
 have HC0_0 := Aside0.mk hc0_0
 clear hr0_0 hc0_0
 have HB := Aside0.mk (Below.refl w.heap.size w)
 have H : ((laws_heldOpS.f k l0_0 a1).bind fun t366 => (if t366 < 0 then none else (some t366))) = some r := h
 clear h
 replace H := Option.bind_eq_some_iff.mp H
 obtain ⟨t366, A30, H⟩ := H
 try dsimp only at H
 have A3 := Aside0.mk A30
 clear A30
 by_cases c4 : t366 < 0
 ·rw [if_pos c4] at H
  have c4b0 : decide (t366 < 0) = true := decide_eq_true c4
  clear c4
  exact absurd H (by simp)
 ·rw [if_neg c4] at H
  have c4b0 : decide (t366 < 0) = false := decide_eq_false c4
  clear c4
  obtain rfl := Option.some.inj H
  go_enter Tryd.func83, Tryd.ntmps83
  go_wp2_with (first | ((with_reducible refine zu (N := 2) rfl ?_); refine zz ?hg (N := 2) ?hd (cs := #[.slice A0_0 l0_0.length c0_0]) (t := 63) ?hr ?_; (case hd => rfl); (case hg => rfl); (case hr => first | (go_simp; done) | (go_simp; rfl)); intro zD hg w8 hbox hb; have n0_ := Aside0.mk (zm (by exact bl HB.out) hb); have n1_ := Aside0.mk (hbox); have n2_ := Aside0.mk ((by rw [hg]; exact (zn (by exact bl HB.out)) : w.heap.size ≤ zD)); have n3_ := Aside0.mk ((by rw [hg]; exact (zn (by exact bl HB.out)) : w.heap.size ≤ zD)); clear HB; have HB := n0_; have zC := n1_; have GW365 := n2_; have zE := n3_; clear n0_ n1_ n2_ n3_; clear hb hbox hg; have zF : w8.cell? ⟨zD, 0, none⟩ = some (.slice A0_0 l0_0.length c0_0) := (zc zC.out 0).trans rfl; have zG := zb zC.out 0) | ((with_reducible refine zo (f := 122) rfl ?_); refine zy (some 8) rfl rfl Tryd.func122 (by kernel_rfl) rfl #[.slice A0_0 l0_0.length c0_0, .int .i64 a1] rfl (by (try simp only [List.map_toArray, List.map_cons, List.map_nil]); first | done | rfl) ?_; (with_reducible refine (laws_heldOpS.calls k _ _ l0_0 a1 t366 _ ?side1 ?side2 A3.out).mono ?_); (case side1 => repeat (first | exact (Kd.C_below HR0_0.out HB.out) | (with_reducible refine Kd.C_alloc ?_ _) | (with_reducible refine Kd.C_drewN ?_ _) | (with_reducible refine Kd.C_drew ?_))); (case side2 => exact HC0_0.out); rintro e w10 ⟨rfl, hb⟩; refine ⟨_, rfl, ?_⟩; have n0_ := Aside0.mk (zp (g := zD) (o := .cells #[.slice A0_0 l0_0.length c0_0] 63 (0, 0)) (BL zC.out) hb); have n1_ := Aside0.mk (zm (by exact bl HB.out) hb); clear zC; clear HB; have zC := n0_; have HB := n1_; clear n0_ n1_; (try clear hb); (try clear hb2); (try clear hk); (try clear hi)))
  go_ret
  exact ⟨by first | rfl | (simp [*] <;> rfl), by repeat (first | (with_reducible first | exact HB.out | apply zh | apply zd | apply zi | refine zl ?_ zE.out) | exact HB.out)⟩

def laws_heldInt64S.l0 : Nat → List Int → Int → Int → Option (Int)
 | 0, _, _, _ => none
 | k + 1, x0, x1, x5 => if x5 < (x0.length : Int) then (if 0 ≤ x5 then (if (rd x0 x5) = x1 then (laws_heldInt64S.l0 k x0 (wrap64 (x1 + 1)) (wrap64 (x5 + 1))) else none) else (none)) else (some x1)
def laws_heldInt64S.f (k : Nat) (l0 : List Int) (a1 : Int) : Option (Int) := laws_heldInt64S.l0 k l0 a1 0
theorem laws_heldInt64S.mono_l : ∀ k, (∀ y0 y1 y2, LeO (laws_heldInt64S.l0 k y0 y1 y2) (laws_heldInt64S.l0 (k + 1) y0 y1 y2))
 | 0 => fun _ _ _ r h => by simp [laws_heldInt64S.l0] at h
 | k + 1 => by
  have ih0 := laws_heldInt64S.mono_l k
  ·intro y0 y1 y2
   unfold laws_heldInt64S.l0
   repeat' first
   | (with_reducible exact ih0 _ _ _)
   | (with_reducible exact LeO.refl _)
   | (with_reducible exact LeO.none _)
   | (with_reducible refine LeO.ite ?_ ?_)
   | (with_reducible refine LeO.bind ?_ (fun _ => ?_))
   | exact ih0 _ _ _
   | exact LeO.none _
   | refine LeO.ite ?_ ?_
   | refine LeO.bind ?_ (fun _ => ?_)
theorem laws_heldInt64S.mono : ∀ a0 a1 k, LeO (laws_heldInt64S.f k a0 a1) (laws_heldInt64S.f (k + 1) a0 a1) := by
 intro a0 a1 k
 have ih0 := laws_heldInt64S.mono_l k
 unfold laws_heldInt64S.f
 repeat' first
   | (with_reducible exact ih0 _ _ _)
   | (with_reducible exact LeO.refl _)
   | (with_reducible exact LeO.none _)
   | (with_reducible refine LeO.ite ?_ ?_)
   | (with_reducible refine LeO.bind ?_ (fun _ => ?_))
   | exact ih0 _ _ _
   | exact LeO.none _
   | refine LeO.ite ?_ ?_
   | refine LeO.bind ?_ (fun _ => ?_)
set_option maxHeartbeats 8000000 in
set_option maxRecDepth 100000 in
theorem laws_heldInt64S.calls (k : Nat) (A0 : Option Addr) (c0 : Nat) (l0 : List Int) (a1 : Int) (r : Int) (w : World) (hr0 : Kd.C (Kd.int .i64) w A0 l0.length l0) (hc0 : l0.length ≤ c0) (h : laws_heldInt64S.f k l0 a1 = some r) :
  Calls Tryd.prog 84 #[.slice A0 l0.length c0, .int .i64 a1] w fun e w' => e = .returned (.int .i64 r) ∧ Drawn0 w w' := by
 have HR0 := Aside0.mk hr0
 have HC0 := Aside0.mk hc0
 clear hr0 hc0
 have H : (laws_heldInt64S.l0 k l0 a1 0) = some r := h
 clear h
 have H' := Aside0.mk H
 clear H
 go_enter Tryd.func84, Tryd.ntmps84
 go_wp2
 go_loopg [1, 5] k (fun kq v1 v5 w' => ∃ (x1_1 : Int) (x5_1 : Int), v1 = .int .i64 x1_1 ∧ v5 = .int .i64 x5_1 ∧ Aside0 (laws_heldInt64S.l0 kq l0 x1_1 x5_1 = some r) ∧ Aside0 (kq ≤ k) ∧ Drawn0 w w')
 case atStart => exact ⟨(a1), (0), (by first | rfl | (simp [*]; done)), (by first | rfl | (simp [*]; done)), H', ⟨Nat.le_refl _⟩, by repeat (first | exact Drawn0.refl _ | apply Drawn0.step)⟩
 case round =>
  clear H'
  try clear p2
  obtain ⟨x1_1, x5_1, rfl, rfl, HA, HK1, ⟨m1, rfl⟩⟩ := hrel
  cases gk with
  | zero => exact absurd HA.out (by simp [laws_heldInt64S.l0])
  | succ k1 =>
   have H := HA.out
   clear HA
   simp only [laws_heldInt64S.l0] at H
   by_cases c3 : x5_1 < (l0.length : Int)
   ·rw [if_pos c3] at H
    have c3b0 : decide (x5_1 < (l0.length : Int)) = true := decide_eq_true c3
    clear c3
    by_cases c4 : 0 ≤ x5_1
    ·rw [if_pos c4] at H
     have c4b0 : decide (0 ≤ x5_1) = true := decide_eq_true c4
     clear c4
     by_cases c5 : (rd l0 x5_1) = x1_1
     ·rw [if_pos c5] at H
      have c5b0 : ((rd l0 x5_1) == x1_1) = true := beq_iff_eq.mpr c5
      have c5b1 : ((rd l0 x5_1) != x1_1) = false := bne_eq_false_iff_eq.mpr c5
      clear c5
      have H' := Aside0.mk H
      clear H
      have p367 : 0 ≤ (x5_1 : Int) := of_decide_eq_true (by with_reducible assumption)
      have q367 : x5_1 < (l0.length : Int) := of_decide_eq_true (by with_reducible assumption)
      obtain ⟨ad367, e367, hx367_0⟩ := Kd.at_int HR0.out x5_1 p367 q367
      cases e367
      replace p367 := eq_true p367
      replace q367 := eq_true q367
      go_wp2
      go_roundg k1
      case measure => have := HK1.out; omega
      case rel => exact ⟨(wrap64 (x1_1 + 1)), (wrap64 (x5_1 + 1)), (by first | rfl | (simp [*]; done)), (by first | rfl | (simp [*]; done)), H', ⟨by have := HK1.out; omega⟩, by repeat (first | exact Drawn0.refl _ | apply Drawn0.step)⟩
     ·rw [if_neg c5] at H
      have c5b0 : ((rd l0 x5_1) == x1_1) = false := beq_eq_false_iff_ne.mpr c5
      have c5b1 : ((rd l0 x5_1) != x1_1) = true := bne_iff_ne.mpr c5
      exact absurd H (by simp)
    ·rw [if_neg c4] at H
     exact absurd H (by simp)
   ·rw [if_neg c3] at H
    have c3b0 : decide (x5_1 < (l0.length : Int)) = false := decide_eq_false c3
    clear c3
    obtain rfl := Option.some.inj H
    go_wp2
    go_ret
    exact ⟨by first | rfl | (simp; done) | (simp [*]; done), by repeat (first | exact Drawn0.refl _ | apply Drawn0.step)⟩

def laws_heldLine.f (k : Nat) (a0_0 : Int) (l0_1 : List (S124)) (a0_2 : Bool) (a0_3 : ByteArray) (l0_4 : List Int) (a1 : Int) : Option (Int) := (laws_heldRequest.f k l0_1 a1).bind fun t369 => (if t369 < 0 then none else ((laws_heldInt64S.f k l0_4 t369).bind fun t370 => (if t370 < 0 then none else (some t370))))
theorem laws_heldLine.mono : ∀ a0 a1 a2 a3 a4 a5 k, LeO (laws_heldLine.f k a0 a1 a2 a3 a4 a5) (laws_heldLine.f (k + 1) a0 a1 a2 a3 a4 a5) := by
 intro a0 a1 a2 a3 a4 a5 k
 unfold laws_heldLine.f
 repeat' first
   | (with_reducible exact laws_heldInt64S.mono _ _ _)
   | (with_reducible exact laws_heldRequest.mono _ _ _)
   | (with_reducible exact LeO.refl _)
   | (with_reducible exact LeO.none _)
   | (with_reducible refine LeO.ite ?_ ?_)
   | (with_reducible refine LeO.bind ?_ (fun _ => ?_))
   | exact laws_heldInt64S.mono _ _ _
   | exact laws_heldRequest.mono _ _ _
   | exact LeO.none _
   | refine LeO.ite ?_ ?_
   | refine LeO.bind ?_ (fun _ => ?_)
set_option maxHeartbeats 8000000 in
set_option maxRecDepth 100000 in
theorem laws_heldLine.calls (k : Nat) (a0_0 : Int) (A0_1 : Option Addr) (c0_1 : Nat) (l0_1 : List (S124)) (a0_2 : Bool) (a0_3 : ByteArray) (A0_4 : Option Addr) (c0_4 : Nat) (l0_4 : List Int) (a1 : Int) (r : Int) (w : World) (hr0_1 : Kd.C k124 w A0_1 l0_1.length l0_1) (hc0_1 : l0_1.length ≤ c0_1) (hr0_4 : Kd.C (Kd.int .i64) w A0_4 l0_4.length l0_4) (hc0_4 : l0_4.length ≤ c0_4) (h : laws_heldLine.f k a0_0 l0_1 a0_2 a0_3 l0_4 a1 = some r) :
  Calls Tryd.prog 34 #[.agg #[.int .i64 a0_0, .slice A0_1 l0_1.length c0_1, .bool a0_2, .string a0_3, .slice A0_4 l0_4.length c0_4], .int .i64 a1] w fun e w' => e = .returned (.int .i64 r) ∧ Below w.heap.size w w' := by
 have hu66 := Tryd.underlying66
 have hu63 := Tryd.underlying63
 have HR0_1 := Aside0.mk hr0_1
 have HC0_1 := Aside0.mk hc0_1
 clear hr0_1 hc0_1
 have HR0_4 := Aside0.mk hr0_4
 have HC0_4 := Aside0.mk hc0_4
 clear hr0_4 hc0_4
 have HB := Aside0.mk (Below.refl w.heap.size w)
 have H : ((laws_heldRequest.f k l0_1 a1).bind fun t369 => (if t369 < 0 then none else ((laws_heldInt64S.f k l0_4 t369).bind fun t370 => (if t370 < 0 then none else (some t370))))) = some r := h
 clear h
 replace H := Option.bind_eq_some_iff.mp H
 obtain ⟨t369, A30, H⟩ := H
 try dsimp only at H
 have A3 := Aside0.mk A30
 clear A30
 by_cases c4 : t369 < 0
 ·rw [if_pos c4] at H
  have c4b0 : decide (t369 < 0) = true := decide_eq_true c4
  clear c4
  exact absurd H (by simp)
 ·rw [if_neg c4] at H
  have c4b0 : decide (t369 < 0) = false := decide_eq_false c4
  clear c4
  replace H := Option.bind_eq_some_iff.mp H
  obtain ⟨t370, A80, H⟩ := H
  try dsimp only at H
  have A8 := Aside0.mk A80
  clear A80
  by_cases c9 : t370 < 0
  ·rw [if_pos c9] at H
   have c9b0 : decide (t370 < 0) = true := decide_eq_true c9
   clear c9
   exact absurd H (by simp)
  ·rw [if_neg c9] at H
   have c9b0 : decide (t370 < 0) = false := decide_eq_false c9
   clear c9
   obtain rfl := Option.some.inj H
   go_enter Tryd.func34, Tryd.ntmps34
   go_wp2_with (first | ((with_reducible refine zu (N := 2) rfl ?_); refine zz ?hg (N := 2) ?hd (cs := #[.int .i64 a0_0, .slice A0_1 l0_1.length c0_1, .bool a0_2, .string a0_3, .slice A0_4 l0_4.length c0_4]) (t := 66) ?hr ?_; (case hd => rfl); (case hg => rfl); (case hr => first | (go_simp; done) | (go_simp; rfl)); intro zD hg w14 hbox hb; have n0_ := Aside0.mk (zm (by exact bl HB.out) hb); have n1_ := Aside0.mk (hbox); have n2_ := Aside0.mk ((by rw [hg]; exact (zn (by exact bl HB.out)) : w.heap.size ≤ zD)); have n3_ := Aside0.mk ((by rw [hg]; exact (zn (by exact bl HB.out)) : w.heap.size ≤ zD)); clear HB; have HB := n0_; have zC := n1_; have GW368 := n2_; have zE := n3_; clear n0_ n1_ n2_ n3_; clear hb hbox hg; have zF : w14.cell? ⟨zD, 0, none⟩ = some (.int .i64 a0_0) := (zc zC.out 0).trans rfl; have zG : w14.cell? ⟨zD, 1, none⟩ = some (.slice A0_1 l0_1.length c0_1) := (zc zC.out 1).trans rfl; have zH : w14.cell? ⟨zD, 2, none⟩ = some (.bool a0_2) := (zc zC.out 2).trans rfl; have zI : w14.cell? ⟨zD, 3, none⟩ = some (.string a0_3) := (zc zC.out 3).trans rfl; have zJ : w14.cell? ⟨zD, 4, none⟩ = some (.slice A0_4 l0_4.length c0_4) := (zc zC.out 4).trans rfl; have zK := zb zC.out 0; have zL := zb zC.out 1; have zM := zb zC.out 2; have zN := zb zC.out 3; have zO := zb zC.out 4) | ((with_reducible refine zo (f := 83) rfl ?_); refine zy (some 8) rfl rfl Tryd.func83 (by kernel_rfl) rfl #[.agg #[.slice A0_1 l0_1.length c0_1], .int .i64 a1] rfl (by (try simp only [List.map_toArray, List.map_cons, List.map_nil]); first | done | rfl) ?_; (with_reducible refine (laws_heldRequest.calls k _ _ l0_1 a1 t369 _ ?side1 ?side2 A3.out).mono ?_); (case side1 => repeat (first | exact (Kd.C_below HR0_1.out HB.out) | (with_reducible refine Kd.C_alloc ?_ _) | (with_reducible refine Kd.C_drewN ?_ _) | (with_reducible refine Kd.C_drew ?_))); (case side2 => exact HC0_1.out); rintro e w16 ⟨rfl, hb⟩; refine ⟨_, rfl, ?_⟩; have n0_ := Aside0.mk (zp (g := zD) (o := .cells #[.int .i64 a0_0, .slice A0_1 l0_1.length c0_1, .bool a0_2, .string a0_3, .slice A0_4 l0_4.length c0_4] 66 (0, 0)) (BL zC.out) hb); have n1_ := Aside0.mk (zm (by exact bl HB.out) hb); clear zC; clear HB; have zC := n0_; have HB := n1_; clear n0_ n1_; (try clear hb); (try clear hb2); (try clear hk); (try clear hi); have zP : w16.cell? ⟨zD, 0, none⟩ = some (.int .i64 a0_0) := (zc zC.out 0).trans rfl; have zQ : w16.cell? ⟨zD, 1, none⟩ = some (.slice A0_1 l0_1.length c0_1) := (zc zC.out 1).trans rfl; have zR : w16.cell? ⟨zD, 2, none⟩ = some (.bool a0_2) := (zc zC.out 2).trans rfl; have zS : w16.cell? ⟨zD, 3, none⟩ = some (.string a0_3) := (zc zC.out 3).trans rfl; have zT : w16.cell? ⟨zD, 4, none⟩ = some (.slice A0_4 l0_4.length c0_4) := (zc zC.out 4).trans rfl; have zU := zb zC.out 0; have zV := zb zC.out 1; have zW := zb zC.out 2; have zX := zb zC.out 3; have zY := zb zC.out 4) | ((with_reducible refine zo (f := 84) rfl ?_); refine zy (some 14) rfl rfl Tryd.func84 (by kernel_rfl) rfl #[.slice A0_4 l0_4.length c0_4, .int .i64 t369] rfl (by (try simp only [List.map_toArray, List.map_cons, List.map_nil]); first | done | rfl) ?_; (with_reducible refine (laws_heldInt64S.calls k _ _ l0_4 t369 t370 _ ?side1 ?side2 A8.out).mono ?_); (case side1 => repeat (first | exact (Kd.C_below HR0_4.out HB.out) | (with_reducible refine Kd.C_alloc ?_ _) | (with_reducible refine Kd.C_drewN ?_ _) | (with_reducible refine Kd.C_drew ?_))); (case side2 => exact HC0_4.out); rintro e w' ⟨rfl, ⟨nd, rfl⟩⟩; refine ⟨_, rfl, ?_⟩))
   go_ret
   exact ⟨by first | rfl | (simp [*] <;> rfl), by repeat (first | (with_reducible first | exact HB.out | apply zh | apply zd | apply zi | refine zl ?_ zE.out) | exact HB.out)⟩

def laws_FnExactParseLine.j0 : Nat → List Int → Bool → Int → List (S124) → Bool → ByteArray → List Int → Int → List (S124) → Bool → ByteArray → List Int → Option (Bool)
 | 0, _, _, _, _, _, _, _, _, _, _, _, _ => none
 | k + 1, x0, x39, x384000, x384001, x384002, x384003, x384004, x397000, x397001, x397002, x397003, x397004 => if x39 = true then (some false) else ((laws_markLine.f k x397000 x397001 x397002 x397003 x397004 1).bind fun bt405 => ((laws_heldLine.f k x397000 bt405.2.1 x397002 x397003 bt405.2.2 1).bind fun t408 => (if t408 < 0 then (some false) else (if t408 = bt405.1 then ((laws_toByteS.f k x0).bind fun t409 => ((impl_ParseLine.f k t409).bind fun bt412 => ((laws_eqLine.f k bt412.1 bt412.2.1 bt412.2.2.1 bt412.2.2.2.1 bt412.2.2.2.2 x384000 x384001 x384002 x384003 x384004).bind fun t422 => (if t422 = true then (some true) else (some false))))) else (some false)))))
def laws_FnExactParseLine.f (k : Nat) (l0 : List Int) : Option (Bool) := if (l0.length : Int) > 1048576 then (some true) else ((laws_toByteS.f k l0).bind fun t371 => ((spec_ParseLine.f k t371).bind fun bt374 => ((laws_toByteS.f k l0).bind fun t384 => ((impl_ParseLine.f k t384).bind fun bt387 => ((laws_eqLine.f k bt387.1 bt387.2.1 bt387.2.2.1 bt387.2.2.2.1 bt387.2.2.2.2 bt374.1 bt374.2.1 bt374.2.2.1 bt374.2.2.2.1 bt374.2.2.2.2).bind fun t397 => (if t397 = true then ((laws_toByteS.f k l0).bind fun t398 => ((laws_eqByteS.f k t384 t398).bind fun t401 => (if t401 = true then ((laws_markByteS.f k t384 1).bind fun bt402 => (if bt402.1 < 0 then (laws_FnExactParseLine.j0 k l0 true bt374.1 bt374.2.1 bt374.2.2.1 bt374.2.2.2.1 bt374.2.2.2.2 bt387.1 bt387.2.1 bt387.2.2.1 bt387.2.2.2.1 bt387.2.2.2.2) else ((laws_eqLine.f k bt387.1 bt387.2.1 bt387.2.2.1 bt387.2.2.2.1 bt387.2.2.2.2 bt374.1 bt374.2.1 bt374.2.2.1 bt374.2.2.2.1 bt374.2.2.2.2).bind fun t404 => (laws_FnExactParseLine.j0 k l0 (!t404) bt374.1 bt374.2.1 bt374.2.2.1 bt374.2.2.2.1 bt374.2.2.2.2 bt387.1 bt387.2.1 bt387.2.2.1 bt387.2.2.2.1 bt387.2.2.2.2)))) else (some false)))) else (some false)))))))
theorem laws_FnExactParseLine.mono_l : ∀ k, (∀ y0 y1 y2 y3 y4 y5 y6 y7 y8 y9 y10 y11, LeO (laws_FnExactParseLine.j0 k y0 y1 y2 y3 y4 y5 y6 y7 y8 y9 y10 y11) (laws_FnExactParseLine.j0 (k + 1) y0 y1 y2 y3 y4 y5 y6 y7 y8 y9 y10 y11))
 | 0 => fun _ _ _ _ _ _ _ _ _ _ _ _ r h => by simp [laws_FnExactParseLine.j0] at h
 | k + 1 => by
  have ih0 := laws_FnExactParseLine.mono_l k
  ·intro y0 y1 y2 y3 y4 y5 y6 y7 y8 y9 y10 y11
   unfold laws_FnExactParseLine.j0
   repeat' first
   | (with_reducible exact ih0 _ _ _ _ _ _ _ _ _ _ _ _)
   | (with_reducible exact impl_ParseLine.mono _ _)
   | (with_reducible exact laws_eqByteS.mono _ _ _)
   | (with_reducible exact laws_eqLine.mono _ _ _ _ _ _ _ _ _ _ _)
   | (with_reducible exact laws_heldLine.mono _ _ _ _ _ _ _)
   | (with_reducible exact laws_markByteS.mono _ _ _)
   | (with_reducible exact laws_markLine.mono _ _ _ _ _ _ _)
   | (with_reducible exact laws_toByteS.mono _ _)
   | (with_reducible exact spec_ParseLine.mono _ _)
   | (with_reducible exact LeO.refl _)
   | (with_reducible exact LeO.none _)
   | (with_reducible refine LeO.ite ?_ ?_)
   | (with_reducible refine LeO.bind ?_ (fun _ => ?_))
   | exact ih0 _ _ _ _ _ _ _ _ _ _ _ _
   | exact impl_ParseLine.mono _ _
   | exact laws_eqByteS.mono _ _ _
   | exact laws_eqLine.mono _ _ _ _ _ _ _ _ _ _ _
   | exact laws_heldLine.mono _ _ _ _ _ _ _
   | exact laws_markByteS.mono _ _ _
   | exact laws_markLine.mono _ _ _ _ _ _ _
   | exact laws_toByteS.mono _ _
   | exact spec_ParseLine.mono _ _
   | exact LeO.none _
   | refine LeO.ite ?_ ?_
   | refine LeO.bind ?_ (fun _ => ?_)
theorem laws_FnExactParseLine.mono : ∀ a0 k, LeO (laws_FnExactParseLine.f k a0) (laws_FnExactParseLine.f (k + 1) a0) := by
 intro a0 k
 have ih0 := laws_FnExactParseLine.mono_l k
 unfold laws_FnExactParseLine.f
 repeat' first
   | (with_reducible exact ih0 _ _ _ _ _ _ _ _ _ _ _ _)
   | (with_reducible exact impl_ParseLine.mono _ _)
   | (with_reducible exact laws_eqByteS.mono _ _ _)
   | (with_reducible exact laws_eqLine.mono _ _ _ _ _ _ _ _ _ _ _)
   | (with_reducible exact laws_heldLine.mono _ _ _ _ _ _ _)
   | (with_reducible exact laws_markByteS.mono _ _ _)
   | (with_reducible exact laws_markLine.mono _ _ _ _ _ _ _)
   | (with_reducible exact laws_toByteS.mono _ _)
   | (with_reducible exact spec_ParseLine.mono _ _)
   | (with_reducible exact LeO.refl _)
   | (with_reducible exact LeO.none _)
   | (with_reducible refine LeO.ite ?_ ?_)
   | (with_reducible refine LeO.bind ?_ (fun _ => ?_))
   | exact ih0 _ _ _ _ _ _ _ _ _ _ _ _
   | exact impl_ParseLine.mono _ _
   | exact laws_eqByteS.mono _ _ _
   | exact laws_eqLine.mono _ _ _ _ _ _ _ _ _ _ _
   | exact laws_heldLine.mono _ _ _ _ _ _ _
   | exact laws_markByteS.mono _ _ _
   | exact laws_markLine.mono _ _ _ _ _ _ _
   | exact laws_toByteS.mono _ _
   | exact spec_ParseLine.mono _ _
   | exact LeO.none _
   | refine LeO.ite ?_ ?_
   | refine LeO.bind ?_ (fun _ => ?_)
set_option maxHeartbeats 8000000 in
set_option maxRecDepth 100000 in
theorem laws_FnExactParseLine.calls (k : Nat) (A0 : Option Addr) (c0 : Nat) (l0 : List Int) (r : Bool) (w : World) (hr0 : Kd.C (Kd.int .u8) w A0 l0.length l0) (hc0 : l0.length ≤ c0) (h : laws_FnExactParseLine.f k l0 = some r) (hGMAX_ : Go.Proofs.YtfiojiokmkiflaaDoorH.GFMAX w) :
  Calls Tryd.prog 5 #[.slice A0 l0.length c0] w fun e w' => e = .returned (.bool r) ∧ Below w.heap.size w w' := by
 have HGMAX_ := Aside0.mk hGMAX_
 clear hGMAX_
 have hu66 := Tryd.underlying66
 have HR0 := Aside0.mk hr0
 have HC0 := Aside0.mk hc0
 clear hr0 hc0
 have HB := Aside0.mk (Below.refl w.heap.size w)
 have H : (if (l0.length : Int) > 1048576 then (some true) else ((laws_toByteS.f k l0).bind fun t371 => ((spec_ParseLine.f k t371).bind fun bt374 => ((laws_toByteS.f k l0).bind fun t384 => ((impl_ParseLine.f k t384).bind fun bt387 => ((laws_eqLine.f k bt387.1 bt387.2.1 bt387.2.2.1 bt387.2.2.2.1 bt387.2.2.2.2 bt374.1 bt374.2.1 bt374.2.2.1 bt374.2.2.2.1 bt374.2.2.2.2).bind fun t397 => (if t397 = true then ((laws_toByteS.f k l0).bind fun t398 => ((laws_eqByteS.f k t384 t398).bind fun t401 => (if t401 = true then ((laws_markByteS.f k t384 1).bind fun bt402 => (if bt402.1 < 0 then (laws_FnExactParseLine.j0 k l0 true bt374.1 bt374.2.1 bt374.2.2.1 bt374.2.2.2.1 bt374.2.2.2.2 bt387.1 bt387.2.1 bt387.2.2.1 bt387.2.2.2.1 bt387.2.2.2.2) else ((laws_eqLine.f k bt387.1 bt387.2.1 bt387.2.2.1 bt387.2.2.2.1 bt387.2.2.2.2 bt374.1 bt374.2.1 bt374.2.2.1 bt374.2.2.2.1 bt374.2.2.2.2).bind fun t404 => (laws_FnExactParseLine.j0 k l0 (!t404) bt374.1 bt374.2.1 bt374.2.2.1 bt374.2.2.2.1 bt374.2.2.2.2 bt387.1 bt387.2.1 bt387.2.2.1 bt387.2.2.2.1 bt387.2.2.2.2)))) else (some false)))) else (some false)))))))) = some r := h
 clear h
 by_cases c2 : (l0.length : Int) > 1048576
 ·rw [if_pos c2] at H
  have c2b0 : decide (1048576 < (l0.length : Int)) = true := decide_eq_true c2
  have c2b1 : decide (1048576 < l0.length) = true := decide_eq_true (by omega)
  clear c2
  obtain rfl := Option.some.inj H
  go_enter Tryd.func5, Tryd.ntmps5
  go_wp2
  go_ret
  exact ⟨by first | rfl | (simp [*] <;> rfl), by repeat (first | (with_reducible first | exact HB.out | apply zh | apply zd | apply zi) | exact HB.out)⟩
 ·rw [if_neg c2] at H
  have c2b0 : decide (1048576 < (l0.length : Int)) = false := decide_eq_false c2
  have c2b1 : decide (1048576 < l0.length) = false := decide_eq_false (by omega)
  clear c2
  replace H := Option.bind_eq_some_iff.mp H
  obtain ⟨t371, A30, H⟩ := H
  try dsimp only at H
  have A3 := Aside0.mk A30
  clear A30
  replace H := Option.bind_eq_some_iff.mp H
  obtain ⟨⟨t374, t375, t378, t379, t380⟩, A40, H⟩ := H
  try dsimp only at H
  have A4 := Aside0.mk A40
  clear A40
  replace H := Option.bind_eq_some_iff.mp H
  obtain ⟨t384, A50, H⟩ := H
  try dsimp only at H
  have A5 := Aside0.mk A50
  clear A50
  replace H := Option.bind_eq_some_iff.mp H
  obtain ⟨⟨t387, t388, t391, t392, t393⟩, A60, H⟩ := H
  try dsimp only at H
  have A6 := Aside0.mk A60
  clear A60
  replace H := Option.bind_eq_some_iff.mp H
  obtain ⟨t397, A70, H⟩ := H
  try dsimp only at H
  have A7 := Aside0.mk A70
  clear A70
  by_cases c8 : t397 = true
  ·subst c8
   rw [if_pos rfl] at H
   replace H := Option.bind_eq_some_iff.mp H
   obtain ⟨t398, A90, H⟩ := H
   try dsimp only at H
   have A9 := Aside0.mk A90
   clear A90
   replace H := Option.bind_eq_some_iff.mp H
   obtain ⟨t401, A100, H⟩ := H
   try dsimp only at H
   have A10 := Aside0.mk A100
   clear A100
   by_cases c11 : t401 = true
   ·subst c11
    rw [if_pos rfl] at H
    replace H := Option.bind_eq_some_iff.mp H
    obtain ⟨⟨t402, t403⟩, A120, H⟩ := H
    try dsimp only at H
    have A12 := Aside0.mk A120
    clear A120
    have HC13 := Aside0.mk H
    clear H
    go_enter Tryd.func5, Tryd.ntmps5
    go_upto_region 12 with (first | ((with_reducible refine zo (f := 28) rfl ?_); refine zy (some 14) rfl rfl Tryd.func28 (by kernel_rfl) rfl #[.slice A0 l0.length c0] rfl (by (try simp only [List.map_toArray, List.map_cons, List.map_nil]); first | done | rfl) ?_; (with_reducible refine (laws_toByteS.calls k _ _ l0 t371 _ ?side1 ?side2 A3.out).mono ?_); (case side1 => repeat (first | exact HR0.out | (with_reducible refine Kd.C_alloc ?_ _) | (with_reducible refine Kd.C_drewN ?_ _) | (with_reducible refine Kd.C_drew ?_))); (case side2 => exact HC0.out); rintro e w14 ⟨v372, rfl, zT, hb⟩; refine ⟨_, rfl, ?_⟩; have n0_ := Aside0.mk (Kd.R_lower zT (zn (by exact bl HB.out))); have n1_ := Aside0.mk (zm (by exact bl HB.out) hb); clear HB; have zL := n0_; have HB := n1_; clear n0_ n1_; (try clear hb); (try clear hb2); (try clear hk); (try clear hi); (try clear zT); obtain ⟨Ao15, co15, eo15⟩ := Kd.R_slice zL.out; subst eo15) | ((with_reducible refine zo (f := 27) rfl ?_); refine zy (some 15) rfl rfl Tryd.func27 (by kernel_rfl) rfl #[.slice Ao15 t371.length co15] rfl (by (try simp only [List.map_toArray, List.map_cons, List.map_nil]); first | done | rfl) ?_; (with_reducible refine (spec_ParseLine.calls k _ _ t371 t374 t375 t378 t379 t380 _ ?side1 ?side2 A4.out).mono ?_); (case side1 => repeat (first | exact (Kd.R_reads' zL.out).2.2 | (with_reducible refine Kd.C_alloc ?_ _) | (with_reducible refine Kd.C_drewN ?_ _) | (with_reducible refine Kd.C_drew ?_))); (case side2 => exact (Kd.R_reads' zL.out).2.1); rintro e w16 ⟨v376, v381, rfl, zT, zZ, hb⟩; refine ⟨_, rfl, ?_⟩; have n0_ := Aside0.mk (Kd.R_below (RL zL.out) hb); have n1_ := Aside0.mk (Kd.R_lower zT (zn (by exact bl HB.out))); have n2_ := Aside0.mk (Kd.R_lower zZ (zn (by exact bl HB.out))); have n3_ := Aside0.mk (zm (by exact bl HB.out) hb); clear zL; clear HB; have zL := n0_; have zM := n1_; have zN := n2_; have HB := n3_; clear n0_ n1_ n2_ n3_; (try clear hb); (try clear hb2); (try clear hk); (try clear hi); (try clear zT); (try clear zZ)) | ((with_reducible refine zu (N := 3) rfl ?_); refine zz ?hg (N := 3) ?hd (cs := #[.int .i64 0, .slice none 0 0, .bool false, .string (⟨#[]⟩ : ByteArray), .slice none 0 0]) (t := 66) ?hr ?_; (case hd => rfl); (case hg => rfl); (case hr => first | (go_simp; done) | (go_simp; rfl)); intro zH hg w17 hbox hb; have n0_ := Aside0.mk (Kd.R_below (RL zL.out) hb); have n1_ := Aside0.mk (Kd.R_below (RL zM.out) hb); have n2_ := Aside0.mk (Kd.R_below (RL zN.out) hb); have n3_ := Aside0.mk (zm (by exact bl HB.out) hb); have n4_ := Aside0.mk (hbox); have n5_ := Aside0.mk ((by rw [hg]; exact (zn (by exact bl HB.out)) : w.heap.size ≤ zH)); have n6_ := Aside0.mk ((by rw [hg]; exact (zn (by exact bl HB.out)) : w.heap.size ≤ zH)); clear zL; clear zM; clear zN; clear HB; have zL := n0_; have zM := n1_; have zN := n2_; have HB := n3_; have zD := n4_; have GW383 := n5_; have zU := n6_; clear n0_ n1_ n2_ n3_ n4_ n5_ n6_; clear hb hbox hg; have zhb : w17.cell? ⟨zH, 0, none⟩ = some (.int .i64 0) := (zc zD.out 0).trans rfl; have zib : w17.cell? ⟨zH, 1, none⟩ = some (.slice none 0 0) := (zc zD.out 1).trans rfl; have zjb : w17.cell? ⟨zH, 2, none⟩ = some (.bool false) := (zc zD.out 2).trans rfl; have zkb : w17.cell? ⟨zH, 3, none⟩ = some (.string (⟨#[]⟩ : ByteArray)) := (zc zD.out 3).trans rfl; have zlb : w17.cell? ⟨zH, 4, none⟩ = some (.slice none 0 0) := (zc zD.out 4).trans rfl; have zmb := zb zD.out 0; have znb := zb zD.out 1; have zob := zb zD.out 2; have zpb := zb zD.out 3; have zqb := zb zD.out 4; obtain ⟨Ao19, co19, eo19⟩ := Kd.R_slice zM.out; subst eo19; obtain ⟨Ao20, co20, eo20⟩ := Kd.R_slice zN.out; subst eo20) | ((with_reducible refine zo (f := 28) rfl ?_); have y0_ := Aside0.mk (Kd.R_mono (Kd.R_far (p := ⟨zH, 4, none⟩) (Kd.R_far (p := ⟨zH, 3, none⟩) (Kd.R_far (p := ⟨zH, 2, none⟩) (Kd.R_far (p := ⟨zH, 1, none⟩) (Kd.R_far (p := ⟨zH, 0, none⟩) (Kd.R_types zL.out zD.out (by decide)) (fun _ hk => hk.2) (.int .i64 t374)) (fun _ hk => hk.2) (.slice Ao19 t375.length co19)) (fun _ hk => hk.2) (.bool t378)) (fun _ hk => hk.2) (.string t379)) (fun _ hk => hk.2) (.slice Ao20 t380.length co20)) (fun _ h_ => h_.1)); refine zy (some 17) rfl rfl Tryd.func28 (by kernel_rfl) rfl #[.slice A0 l0.length c0] rfl (by (try simp only [List.map_toArray, List.map_cons, List.map_nil]); first | done | rfl) ?_; (with_reducible refine (laws_toByteS.calls k _ _ l0 t384 _ ?side1 ?side2 A5.out).mono ?_); (case side1 => exact Kd.C_below HR0.out (by repeat (first | (with_reducible first | exact HB.out | apply zh | apply zd | apply zi | refine zl ?_ zU.out) | exact HB.out))); (case side2 => exact HC0.out); rintro e w21 ⟨v385, rfl, zT, hb⟩; refine ⟨_, rfl, ?_⟩; have n0_ := Aside0.mk (Kd.R_elder' (RL y0_.out) (Kd.R_base zT) hb); have n1_ := Aside0.mk (Kd.R_below (RL ((Kd.R_mono (Kd.R_far (p := ⟨zH, 4, none⟩) (Kd.R_far (p := ⟨zH, 3, none⟩) (Kd.R_far (p := ⟨zH, 2, none⟩) (Kd.R_far (p := ⟨zH, 1, none⟩) (Kd.R_far (p := ⟨zH, 0, none⟩) (Kd.R_types zM.out zD.out (by decide)) (fun _ hk => hk.2) (.int .i64 t374)) (fun _ hk => hk.2) (.slice Ao19 t375.length co19)) (fun _ hk => hk.2) (.bool t378)) (fun _ hk => hk.2) (.string t379)) (fun _ hk => hk.2) (.slice Ao20 t380.length co20)) (fun _ h_ => h_.1)))) hb); have n2_ := Aside0.mk (Kd.R_below (RL ((Kd.R_mono (Kd.R_far (p := ⟨zH, 4, none⟩) (Kd.R_far (p := ⟨zH, 3, none⟩) (Kd.R_far (p := ⟨zH, 2, none⟩) (Kd.R_far (p := ⟨zH, 1, none⟩) (Kd.R_far (p := ⟨zH, 0, none⟩) (Kd.R_types zN.out zD.out (by decide)) (fun _ hk => hk.2) (.int .i64 t374)) (fun _ hk => hk.2) (.slice Ao19 t375.length co19)) (fun _ hk => hk.2) (.bool t378)) (fun _ hk => hk.2) (.string t379)) (fun _ hk => hk.2) (.slice Ao20 t380.length co20)) (fun _ h_ => h_.1)))) hb); have n3_ := Aside0.mk (Kd.R_lower (Kd.R_new' zT (Kd.R_lt (RL y0_.out))) (zn (by repeat (first | (with_reducible first | exact HB.out | apply zh | apply zd | apply zi | refine zl ?_ zU.out) | exact HB.out)))); have n4_ := Aside0.mk (zp (g := zH) (o := .cells #[.int .i64 t374, .slice Ao19 t375.length co19, .bool t378, .string t379, .slice Ao20 t380.length co20] 66 (0, 0)) (bfin (by (repeat (first | (with_reducible first | refine zf ?_ _ | refine zj ?_ | refine ze ?_ _) | apply zA)); exact zD.out) (by rfl)) hb); have n5_ := Aside0.mk (zm (by repeat (first | (with_reducible first | exact HB.out | apply zh | apply zd | apply zi | refine zl ?_ zU.out) | exact HB.out)) hb); clear zL; clear zM; clear zN; clear zD; clear HB; have zL := n0_; have zM := n1_; have zN := n2_; have zO := n3_; have zD := n4_; have HB := n5_; clear n0_ n1_ n2_ n3_ n4_ n5_; (try clear hb); (try clear hb2); (try clear hk); (try clear hi); (try clear zT); obtain ⟨Ao22, co22, eo22⟩ := Kd.R_slice zO.out; subst eo22; (try clear y0_)) | ((with_reducible refine zo (f := 29) rfl ?_); refine zy (some 19) rfl rfl Tryd.func29 (by kernel_rfl) rfl #[.slice Ao22 t384.length co22] rfl (by (try simp only [List.map_toArray, List.map_cons, List.map_nil]); first | done | rfl) ?_; (with_reducible refine (impl_ParseLine.calls k _ _ t384 t387 t388 t391 t392 t393 _ ?side1 ?side2 A6.out ?globMAX_).mono ?_); (case globMAX_ => exact Go.Proofs.YtfiojiokmkiflaaDoorH.GFMAX.below HGMAX_.out (by repeat (first | (with_reducible first | exact HB.out | exact Below.refl _ _ | apply zh | apply zd | apply zi | refine zl ?_ (Aside0.out (by assumption))) | exact HB.out))); (case side1 => repeat (first | exact (Kd.R_reads' zO.out).2.2 | (with_reducible refine Kd.C_alloc ?_ _) | (with_reducible refine Kd.C_drewN ?_ _) | (with_reducible refine Kd.C_drew ?_))); (case side2 => exact (Kd.R_reads' zO.out).2.1); rintro e w23 ⟨v389, v394, rfl, zT, zZ, hb⟩; refine ⟨_, rfl, ?_⟩; have n0_ := Aside0.mk (Kd.R_below (RL zL.out) hb); have n1_ := Aside0.mk (Kd.R_elder' (RL zM.out) (Kd.R_base zT) hb); have n2_ := Aside0.mk (Kd.R_elder' (RL zN.out) (Kd.R_base zZ) hb); have n3_ := Aside0.mk (Kd.R_below (RL zO.out) hb); have n4_ := Aside0.mk (Kd.R_lower (Kd.R_new' zT (Kd.R_lt (RL zM.out))) (zn (by exact bl HB.out))); have n5_ := Aside0.mk (Kd.R_lower (Kd.R_new' zZ (Kd.R_lt (RL zN.out))) (zn (by exact bl HB.out))); have n6_ := Aside0.mk (zp (g := zH) (o := .cells #[.int .i64 t374, .slice Ao19 t375.length co19, .bool t378, .string t379, .slice Ao20 t380.length co20] 66 (0, 0)) (BL zD.out) hb); have n7_ := Aside0.mk (zm (by exact bl HB.out) hb); clear zL; clear zM; clear zN; clear zO; clear zD; clear HB; have zL := n0_; have zM := n1_; have zN := n2_; have zO := n3_; have zQ := n4_; have zR := n5_; have zD := n6_; have HB := n7_; clear n0_ n1_ n2_ n3_ n4_ n5_ n6_ n7_; (try clear hb); (try clear hb2); (try clear hk); (try clear hi); (try clear zT); (try clear zZ)) | ((with_reducible refine zu (N := 5) rfl ?_); refine zz ?hg (N := 5) ?hd (cs := #[.int .i64 0, .slice none 0 0, .bool false, .string (⟨#[]⟩ : ByteArray), .slice none 0 0]) (t := 66) ?hr ?_; (case hd => rfl); (case hg => rfl); (case hr => first | (go_simp; done) | (go_simp; rfl)); intro zE hg w24 hbox hb; have n0_ := Aside0.mk (Kd.R_below (RL zL.out) hb); have n1_ := Aside0.mk (Kd.R_below (RL zM.out) hb); have n2_ := Aside0.mk (Kd.R_below (RL zN.out) hb); have n3_ := Aside0.mk (Kd.R_below (RL zO.out) hb); have n4_ := Aside0.mk (Kd.R_below (RL zQ.out) hb); have n5_ := Aside0.mk (Kd.R_below (RL zR.out) hb); have n6_ := Aside0.mk (zp (g := zH) (o := .cells #[.int .i64 t374, .slice Ao19 t375.length co19, .bool t378, .string t379, .slice Ao20 t380.length co20] 66 (0, 0)) (BL zD.out) hb); have n7_ := Aside0.mk (zm (by exact bl HB.out) hb); have n8_ := Aside0.mk (hbox); have n9_ := Aside0.mk ((by rw [hg]; exact (zn (by exact bl HB.out)) : w.heap.size ≤ zE)); have n10_ := Aside0.mk ((by rw [hg]; exact (zn (by exact bl HB.out)) : w.heap.size ≤ zE)); have n11_ := Aside0.mk ((by rw [hg]; exact Nat.ne_of_lt (zB (g := zH) (o := .cells #[.int .i64 t374, .slice Ao19 t375.length co19, .bool t378, .string t379, .slice Ao20 t380.length co20] 66 (0, 0)) (BL zD.out)) : zH ≠ zE)); have n12_ := Aside0.mk ((by rw [hg]; exact Nat.ne_of_gt (zB (g := zH) (o := .cells #[.int .i64 t374, .slice Ao19 t375.length co19, .bool t378, .string t379, .slice Ao20 t380.length co20] 66 (0, 0)) (BL zD.out)) : zE ≠ zH)); clear zL; clear zM; clear zN; clear zO; clear zQ; clear zR; clear zD; clear HB; have zL := n0_; have zM := n1_; have zN := n2_; have zO := n3_; have zQ := n4_; have zR := n5_; have zD := n6_; have HB := n7_; have zC := n8_; have GW396 := n9_; have zcb := n10_; have zP := n11_; have zY := n12_; clear n0_ n1_ n2_ n3_ n4_ n5_ n6_ n7_ n8_ n9_ n10_ n11_ n12_; clear hb hbox hg; have zHf := zY.out; have zIf := zP.out; have zrb : w24.cell? ⟨zE, 0, none⟩ = some (.int .i64 0) := (zc zC.out 0).trans rfl; have zsb : w24.cell? ⟨zE, 1, none⟩ = some (.slice none 0 0) := (zc zC.out 1).trans rfl; have ztb : w24.cell? ⟨zE, 2, none⟩ = some (.bool false) := (zc zC.out 2).trans rfl; have zub : w24.cell? ⟨zE, 3, none⟩ = some (.string (⟨#[]⟩ : ByteArray)) := (zc zC.out 3).trans rfl; have zvb : w24.cell? ⟨zE, 4, none⟩ = some (.slice none 0 0) := (zc zC.out 4).trans rfl; have zwb := zb zC.out 0; have zxb := zb zC.out 1; have zyb := zb zC.out 2; have zzb := zb zC.out 3; have zAb := zb zC.out 4; obtain ⟨Ao27, co27, eo27⟩ := Kd.R_slice zQ.out; subst eo27; obtain ⟨Ao28, co28, eo28⟩ := Kd.R_slice zR.out; subst eo28; have zBb : w24.cell? ⟨zH, 0, none⟩ = some (.int .i64 t374) := (zc zD.out 0).trans rfl; have zCb : w24.cell? ⟨zH, 1, none⟩ = some (.slice Ao19 t375.length co19) := (zc zD.out 1).trans rfl; have zDb : w24.cell? ⟨zH, 2, none⟩ = some (.bool t378) := (zc zD.out 2).trans rfl; have zEb : w24.cell? ⟨zH, 3, none⟩ = some (.string t379) := (zc zD.out 3).trans rfl; have zFb : w24.cell? ⟨zH, 4, none⟩ = some (.slice Ao20 t380.length co20) := (zc zD.out 4).trans rfl; have zGb := zb zD.out 0; have zHb := zb zD.out 1; have zIb := zb zD.out 2; have zJb := zb zD.out 3; have zKb := zb zD.out 4) | ((with_reducible refine zo (f := 30) rfl ?_); have y0_ := Aside0.mk (Kd.R_mono (Kd.R_far (p := ⟨zE, 4, none⟩) (Kd.R_far (p := ⟨zE, 3, none⟩) (Kd.R_far (p := ⟨zE, 2, none⟩) (Kd.R_far (p := ⟨zE, 1, none⟩) (Kd.R_far (p := ⟨zE, 0, none⟩) (Kd.R_types zQ.out zC.out (by decide)) (fun _ hk => hk.2) (.int .i64 t387)) (fun _ hk => hk.2) (.slice Ao27 t388.length co27)) (fun _ hk => hk.2) (.bool t391)) (fun _ hk => hk.2) (.string t392)) (fun _ hk => hk.2) (.slice Ao28 t393.length co28)) (fun _ h_ => h_.1)); have y1_ := Aside0.mk (Kd.R_mono (Kd.R_far (p := ⟨zE, 4, none⟩) (Kd.R_far (p := ⟨zE, 3, none⟩) (Kd.R_far (p := ⟨zE, 2, none⟩) (Kd.R_far (p := ⟨zE, 1, none⟩) (Kd.R_far (p := ⟨zE, 0, none⟩) (Kd.R_types zR.out zC.out (by decide)) (fun _ hk => hk.2) (.int .i64 t387)) (fun _ hk => hk.2) (.slice Ao27 t388.length co27)) (fun _ hk => hk.2) (.bool t391)) (fun _ hk => hk.2) (.string t392)) (fun _ hk => hk.2) (.slice Ao28 t393.length co28)) (fun _ h_ => h_.1)); have y2_ := Aside0.mk (Kd.R_mono (Kd.R_far (p := ⟨zE, 4, none⟩) (Kd.R_far (p := ⟨zE, 3, none⟩) (Kd.R_far (p := ⟨zE, 2, none⟩) (Kd.R_far (p := ⟨zE, 1, none⟩) (Kd.R_far (p := ⟨zE, 0, none⟩) (Kd.R_types zM.out zC.out (by decide)) (fun _ hk => hk.2) (.int .i64 t387)) (fun _ hk => hk.2) (.slice Ao27 t388.length co27)) (fun _ hk => hk.2) (.bool t391)) (fun _ hk => hk.2) (.string t392)) (fun _ hk => hk.2) (.slice Ao28 t393.length co28)) (fun _ h_ => h_.1)); have y3_ := Aside0.mk (Kd.R_mono (Kd.R_far (p := ⟨zE, 4, none⟩) (Kd.R_far (p := ⟨zE, 3, none⟩) (Kd.R_far (p := ⟨zE, 2, none⟩) (Kd.R_far (p := ⟨zE, 1, none⟩) (Kd.R_far (p := ⟨zE, 0, none⟩) (Kd.R_types zN.out zC.out (by decide)) (fun _ hk => hk.2) (.int .i64 t387)) (fun _ hk => hk.2) (.slice Ao27 t388.length co27)) (fun _ hk => hk.2) (.bool t391)) (fun _ hk => hk.2) (.string t392)) (fun _ hk => hk.2) (.slice Ao28 t393.length co28)) (fun _ h_ => h_.1)); refine zy (some 22) rfl rfl Tryd.func30 (by kernel_rfl) rfl #[.agg #[.int .i64 t387, .slice Ao27 t388.length co27, .bool t391, .string t392, .slice Ao28 t393.length co28], .agg #[.int .i64 t374, .slice Ao19 t375.length co19, .bool t378, .string t379, .slice Ao20 t380.length co20]] rfl (by (try simp only [List.map_toArray, List.map_cons, List.map_nil]); first | done | rfl) ?_; (with_reducible refine (laws_eqLine.calls k t387 _ _ t388 t391 t392 _ _ t393 t374 _ _ t375 t378 t379 _ _ t380 true _ ?side1 ?side2 ?side3 ?side4 ?side5 ?side6 ?side7 ?side8 A7.out).mono ?_); (case side1 => refine (Kd.R_reads' (e := 124) (base := w.heap.size) (ok := fun k_ => (True ∧ some k_ ≠ (.slice Ao19 t375.length co19 : Value).ownBlock)) (n := t388.length) (c := co27) ?_).2.2; exact (RL y0_.out)); (case side2 => exact (Kd.R_reads' zQ.out).2.1); (case side3 => refine (Kd.R_reads' (e := 2) (base := w.heap.size) (ok := fun k_ => (True ∧ some k_ ≠ (.slice Ao20 t380.length co20 : Value).ownBlock)) (n := t393.length) (c := co28) ?_).2.2; exact (RL y1_.out)); (case side4 => exact (Kd.R_reads' zR.out).2.1); (case side5 => refine (Kd.R_reads' (e := 124) (base := w.heap.size) (ok := fun k_ => (True ∧ some k_ ≠ (.slice Ao27 t388.length co27 : Value).ownBlock)) (n := t375.length) (c := co19) ?_).2.2; exact (RL y2_.out)); (case side6 => exact (Kd.R_reads' zM.out).2.1); (case side7 => refine (Kd.R_reads' (e := 2) (base := w.heap.size) (ok := fun k_ => (True ∧ some k_ ≠ (.slice Ao28 t393.length co28 : Value).ownBlock)) (n := t380.length) (c := co20) ?_).2.2; exact (RL y3_.out)); (case side8 => exact (Kd.R_reads' zN.out).2.1); rintro e w30 ⟨rfl, hb⟩; refine ⟨_, rfl, ?_⟩; have n0_ := Aside0.mk (Kd.R_below (RL ((Kd.R_mono (Kd.R_far (p := ⟨zE, 4, none⟩) (Kd.R_far (p := ⟨zE, 3, none⟩) (Kd.R_far (p := ⟨zE, 2, none⟩) (Kd.R_far (p := ⟨zE, 1, none⟩) (Kd.R_far (p := ⟨zE, 0, none⟩) (Kd.R_types zL.out zC.out (by decide)) (fun _ hk => hk.2) (.int .i64 t387)) (fun _ hk => hk.2) (.slice Ao27 t388.length co27)) (fun _ hk => hk.2) (.bool t391)) (fun _ hk => hk.2) (.string t392)) (fun _ hk => hk.2) (.slice Ao28 t393.length co28)) (fun _ h_ => h_.1)))) hb); have n1_ := Aside0.mk (Kd.R_below (RL y2_.out) hb); have n2_ := Aside0.mk (Kd.R_below (RL y3_.out) hb); have n3_ := Aside0.mk (Kd.R_below (RL ((Kd.R_mono (Kd.R_far (p := ⟨zE, 4, none⟩) (Kd.R_far (p := ⟨zE, 3, none⟩) (Kd.R_far (p := ⟨zE, 2, none⟩) (Kd.R_far (p := ⟨zE, 1, none⟩) (Kd.R_far (p := ⟨zE, 0, none⟩) (Kd.R_types zO.out zC.out (by decide)) (fun _ hk => hk.2) (.int .i64 t387)) (fun _ hk => hk.2) (.slice Ao27 t388.length co27)) (fun _ hk => hk.2) (.bool t391)) (fun _ hk => hk.2) (.string t392)) (fun _ hk => hk.2) (.slice Ao28 t393.length co28)) (fun _ h_ => h_.1)))) hb); have n4_ := Aside0.mk (Kd.R_below (RL y0_.out) hb); have n5_ := Aside0.mk (Kd.R_below (RL y1_.out) hb); have n6_ := Aside0.mk (zp (g := zH) (o := .cells #[.int .i64 t374, .slice Ao19 t375.length co19, .bool t378, .string t379, .slice Ao20 t380.length co20] 66 (0, 0)) (by (with_reducible repeat (first | refine zf ?_ _ | refine zj ?_ | refine ze ?_ _)); refine zq ?_ zP.out _; (with_reducible repeat (first | refine zf ?_ _ | refine zj ?_ | refine ze ?_ _)); refine zq ?_ zP.out _; (with_reducible repeat (first | refine zf ?_ _ | refine zj ?_ | refine ze ?_ _)); refine zq ?_ zP.out _; (with_reducible repeat (first | refine zf ?_ _ | refine zj ?_ | refine ze ?_ _)); refine zq ?_ zP.out _; (with_reducible repeat (first | refine zf ?_ _ | refine zj ?_ | refine ze ?_ _)); refine zq ?_ zP.out _; (with_reducible repeat (first | refine zf ?_ _ | refine zj ?_ | refine ze ?_ _)); exact zD.out) hb); have n7_ := Aside0.mk (zp (g := zE) (o := .cells #[.int .i64 t387, .slice Ao27 t388.length co27, .bool t391, .string t392, .slice Ao28 t393.length co28] 66 (0, 0)) (bfin (by (repeat (first | (with_reducible first | refine zf ?_ _ | refine zj ?_ | refine ze ?_ _) | apply zA)); exact zC.out) (by rfl)) hb); have n8_ := Aside0.mk (zm (by repeat (first | (with_reducible first | exact HB.out | apply zh | apply zd | apply zi | refine zl ?_ zU.out | refine zl ?_ zcb.out) | exact HB.out)) hb); clear zL; clear zM; clear zN; clear zO; clear zQ; clear zR; clear zD; clear zC; clear HB; have zL := n0_; have zM := n1_; have zN := n2_; have zO := n3_; have zQ := n4_; have zR := n5_; have zD := n6_; have zC := n7_; have HB := n8_; clear n0_ n1_ n2_ n3_ n4_ n5_ n6_ n7_ n8_; (try clear hb); (try clear hb2); (try clear hk); (try clear hi); (try clear y0_ y1_ y2_ y3_)) | ((with_reducible refine zo (f := 28) rfl ?_); refine zy (some 26) rfl rfl Tryd.func28 (by kernel_rfl) rfl #[.slice A0 l0.length c0] rfl (by (try simp only [List.map_toArray, List.map_cons, List.map_nil]); first | done | rfl) ?_; (with_reducible refine (laws_toByteS.calls k _ _ l0 t398 _ ?side1 ?side2 A9.out).mono ?_); (case side1 => repeat (first | exact (Kd.C_below HR0.out HB.out) | (with_reducible refine Kd.C_alloc ?_ _) | (with_reducible refine Kd.C_drewN ?_ _) | (with_reducible refine Kd.C_drew ?_))); (case side2 => exact HC0.out); rintro e w31 ⟨v399, rfl, zT, hb⟩; refine ⟨_, rfl, ?_⟩; have n0_ := Aside0.mk (Kd.R_elder' (RL zL.out) (Kd.R_base zT) hb); have n1_ := Aside0.mk (Kd.R_below (RL zM.out) hb); have n2_ := Aside0.mk (Kd.R_below (RL zN.out) hb); have n3_ := Aside0.mk (Kd.R_elder' (RL zO.out) (Kd.R_base zT) hb); have n4_ := Aside0.mk (Kd.R_below (RL zQ.out) hb); have n5_ := Aside0.mk (Kd.R_below (RL zR.out) hb); have n6_ := Aside0.mk (Kd.R_lower (Kd.R_new' (Kd.R_new' zT (Kd.R_lt (RL zL.out))) (Kd.R_lt (RL zO.out))) (zn (by exact bl HB.out))); have n7_ := Aside0.mk (zp (g := zH) (o := .cells #[.int .i64 t374, .slice Ao19 t375.length co19, .bool t378, .string t379, .slice Ao20 t380.length co20] 66 (0, 0)) (BL zD.out) hb); have n8_ := Aside0.mk (zp (g := zE) (o := .cells #[.int .i64 t387, .slice Ao27 t388.length co27, .bool t391, .string t392, .slice Ao28 t393.length co28] 66 (0, 0)) (BL zC.out) hb); have n9_ := Aside0.mk (zm (by exact bl HB.out) hb); clear zL; clear zM; clear zN; clear zO; clear zQ; clear zR; clear zD; clear zC; clear HB; have zL := n0_; have zM := n1_; have zN := n2_; have zO := n3_; have zQ := n4_; have zR := n5_; have zdb := n6_; have zD := n7_; have zC := n8_; have HB := n9_; clear n0_ n1_ n2_ n3_ n4_ n5_ n6_ n7_ n8_ n9_; (try clear hb); (try clear hb2); (try clear hk); (try clear hi); (try clear zT); obtain ⟨Ao32, co32, eo32⟩ := Kd.R_slice zdb.out; subst eo32) | ((with_reducible refine zo (f := 31) rfl ?_); refine zy (some 27) rfl rfl Tryd.func31 (by kernel_rfl) rfl #[.slice Ao22 t384.length co22, .slice Ao32 t398.length co32] rfl (by (try simp only [List.map_toArray, List.map_cons, List.map_nil]); first | done | rfl) ?_; (with_reducible refine (laws_eqByteS.calls k _ _ t384 _ _ t398 true _ ?side1 ?side2 ?side3 ?side4 A10.out).mono ?_); (case side1 => repeat (first | exact (Kd.R_reads' zO.out).2.2 | (with_reducible refine Kd.C_alloc ?_ _) | (with_reducible refine Kd.C_drewN ?_ _) | (with_reducible refine Kd.C_drew ?_))); (case side2 => exact (Kd.R_reads' zO.out).2.1); (case side3 => repeat (first | exact (Kd.R_reads' zdb.out).2.2 | (with_reducible refine Kd.C_alloc ?_ _) | (with_reducible refine Kd.C_drewN ?_ _) | (with_reducible refine Kd.C_drew ?_))); (case side4 => exact (Kd.R_reads' zdb.out).2.1); rintro e w' ⟨rfl, ⟨nd, rfl⟩⟩; refine ⟨_, rfl, ?_⟩) | ((with_reducible refine zo (f := 32) rfl ?_); refine zy (some 31) rfl rfl Tryd.func32 (by kernel_rfl) rfl #[.slice Ao22 t384.length co22, .int .i64 1] rfl (by (try simp only [List.map_toArray, List.map_cons, List.map_nil]); first | done | rfl) ?_; (with_reducible refine (laws_markByteS.calls k (fun k_ => some k_ = (.slice Ao22 t384.length co22 : Value).ownBlock) (.slice Ao22 t384.length co22) t384 1 t402 t403 w _ ?side1 ?side2 A12.out).mono ?_); (case side1 => exact bl HB.out); (case side2 => exact Kd.R_tight rfl zO.out); rintro e w33 ⟨rfl, hy0, hb, hkp⟩; refine ⟨_, rfl, ?_⟩; have n0_ := Aside0.mk (Kd.R_mono (ok' := fun k_ => some k_ ≠ (.slice Ao22 t384.length co22 : Value).ownBlock ∧ some k_ ≠ (.slice Ao32 t398.length co32 : Value).ownBlock) (Kd.R_keptB (zL.out) hkp (fun k_ hk_ hs_ => by first | exact (hk_.1.2) hs_ | exact hk_.1 hs_ | exact hk_.2 hs_ | exact hk_.1.1 hs_ | exact hk_.1.2 hs_ | exact hk_.2.1 hs_ | exact hk_.2.2 hs_)) (fun k_ hk_ => by first | exact ⟨hk_.1.1.2, hk_.1.2⟩ | exact hk_.1 | exact ⟨hk_.1.1, hk_.1.2⟩ | exact ⟨hk_.1.2, hk_.1.1⟩ | exact hk_.1.1 | exact hk_.1.2)); have n1_ := Aside0.mk (Kd.R_mono (ok' := fun k_ => some k_ ≠ (.slice Ao27 t388.length co27 : Value).ownBlock) (Kd.R_keptB ((Kd.R_apart' zM.out (Kd.R_typed zO.out) (by decide))) hkp (fun k_ hk_ hs_ => by first | exact (hk_.2) hs_ | exact hk_.1 hs_ | exact hk_.2 hs_ | exact hk_.1.1 hs_ | exact hk_.1.2 hs_ | exact hk_.2.1 hs_ | exact hk_.2.2 hs_)) (fun k_ hk_ => by first | exact hk_.1.1.2 | exact hk_.1 | exact ⟨hk_.1.1, hk_.1.2⟩ | exact ⟨hk_.1.2, hk_.1.1⟩ | exact hk_.1.1 | exact hk_.1.2)); have n2_ := Aside0.mk (Kd.R_mono (ok' := fun k_ => some k_ ≠ (.slice Ao28 t393.length co28 : Value).ownBlock) (Kd.R_keptB ((Kd.R_apart' zN.out (Kd.R_typed zO.out) (by decide))) hkp (fun k_ hk_ hs_ => by first | exact (hk_.2) hs_ | exact hk_.1 hs_ | exact hk_.2 hs_ | exact hk_.1.1 hs_ | exact hk_.1.2 hs_ | exact hk_.2.1 hs_ | exact hk_.2.2 hs_)) (fun k_ hk_ => by first | exact hk_.1.1.2 | exact hk_.1 | exact ⟨hk_.1.1, hk_.1.2⟩ | exact ⟨hk_.1.2, hk_.1.1⟩ | exact hk_.1.1 | exact hk_.1.2)); have n3_ := Aside0.mk (blk_kept (BL zD.out) hkp (fun hs_ => (fun e_ => (Kd.R_ne zO.out zD.out (by decide)) e_) hs_)); have n4_ := Aside0.mk (Kd.R_reok rfl hy0 (fun k_ e_ => zO.out.1 k_ e_)); have n5_ := Aside0.mk (Kd.R_mono (ok' := fun k_ => some k_ ≠ (.slice Ao19 t375.length co19 : Value).ownBlock) (Kd.R_keptB ((Kd.R_apart' zQ.out (Kd.R_typed zO.out) (by decide))) hkp (fun k_ hk_ hs_ => by first | exact (hk_.2) hs_ | exact hk_.1 hs_ | exact hk_.2 hs_ | exact hk_.1.1 hs_ | exact hk_.1.2 hs_ | exact hk_.2.1 hs_ | exact hk_.2.2 hs_)) (fun k_ hk_ => by first | exact hk_.1.1.2 | exact hk_.1 | exact ⟨hk_.1.1, hk_.1.2⟩ | exact ⟨hk_.1.2, hk_.1.1⟩ | exact hk_.1.1 | exact hk_.1.2)); have n6_ := Aside0.mk (Kd.R_mono (ok' := fun k_ => some k_ ≠ (.slice Ao20 t380.length co20 : Value).ownBlock) (Kd.R_keptB ((Kd.R_apart' zR.out (Kd.R_typed zO.out) (by decide))) hkp (fun k_ hk_ hs_ => by first | exact (hk_.2) hs_ | exact hk_.1 hs_ | exact hk_.2 hs_ | exact hk_.1.1 hs_ | exact hk_.1.2 hs_ | exact hk_.2.1 hs_ | exact hk_.2.2 hs_)) (fun k_ hk_ => by first | exact hk_.1.1.2 | exact hk_.1 | exact ⟨hk_.1.1, hk_.1.2⟩ | exact ⟨hk_.1.2, hk_.1.1⟩ | exact hk_.1.1 | exact hk_.1.2)); have n7_ := Aside0.mk (blk_kept (BL zC.out) hkp (fun hs_ => (fun e_ => (Kd.R_ne zO.out zC.out (by decide)) e_) hs_)); have n8_ := Aside0.mk (Kd.R_mono (ok' := fun k_ => some k_ ≠ (.slice Ao15 t371.length co15 : Value).ownBlock ∧ some k_ ≠ (.slice Ao22 t384.length co22 : Value).ownBlock) (Kd.R_keptB (zdb.out) hkp (fun k_ hk_ hs_ => by first | exact (hk_.2) hs_ | exact hk_.1 hs_ | exact hk_.2 hs_ | exact hk_.1.1 hs_ | exact hk_.1.2 hs_ | exact hk_.2.1 hs_ | exact hk_.2.2 hs_)) (fun k_ hk_ => by first | exact ⟨hk_.1.1.2, hk_.1.2⟩ | exact hk_.1 | exact ⟨hk_.1.1, hk_.1.2⟩ | exact ⟨hk_.1.2, hk_.1.1⟩ | exact hk_.1.1 | exact hk_.1.2)); have n9_ := Aside0.mk (hb); clear zL; clear zM; clear zN; clear zD; clear zO; clear zQ; clear zR; clear zC; clear zdb; clear HB; have zL := n0_; have zM := n1_; have zN := n2_; have zD := n3_; have zO := n4_; have zQ := n5_; have zR := n6_; have zC := n7_; have zdb := n8_; have HB := n9_; clear n0_ n1_ n2_ n3_ n4_ n5_ n6_ n7_ n8_ n9_; (try clear hb); (try clear hkp); (try clear hy0)))
    (try simp only [Act.put, List.setIfInBounds_toArray, List.set_cons_zero, List.set_cons_succ])
    go_cut [39] (fun v39 wc => ∃ (kq : Nat) (x39_12 : Bool), v39 = .bool x39_12 ∧ Aside0 (laws_FnExactParseLine.j0 kq l0 x39_12 t374 t375 t378 t379 t380 t387 t388 t391 t392 t393 = some r) ∧ Aside0 (kq ≤ k) ∧ Aside0 (Kd.R k124 124 wc w.heap.size (fun k_ => some k_ ≠ ((.slice Ao27 t388.length co27) : Value).ownBlock) (.slice Ao19 t375.length co19) t375) ∧ Aside0 (Kd.R (Kd.int .i64) 2 wc w.heap.size (fun k_ => some k_ ≠ ((.slice Ao28 t393.length co28) : Value).ownBlock) (.slice Ao20 t380.length co20) t380) ∧ Aside0 (Kd.R k124 124 wc w.heap.size (fun k_ => some k_ ≠ ((.slice Ao19 t375.length co19) : Value).ownBlock) (.slice Ao27 t388.length co27) t388) ∧ Aside0 (Kd.R (Kd.int .i64) 2 wc w.heap.size (fun k_ => some k_ ≠ ((.slice Ao20 t380.length co20) : Value).ownBlock) (.slice Ao28 t393.length co28) t393) ∧ Aside0 (wc.heap[zH]? = some (.cells #[.int .i64 t374, (.slice Ao19 t375.length co19), .bool t378, .string t379, (.slice Ao20 t380.length co20)] 66 (0, 0))) ∧ Aside0 (wc.heap[zE]? = some (.cells #[.int .i64 t387, (.slice Ao27 t388.length co27), .bool t391, .string t392, (.slice Ao28 t393.length co28)] 66 (0, 0))) ∧ Aside0 (Below w.heap.size w wc))
    case first =>
     have H := HC13.out
     clear HC13
     by_cases c34 : t402 < 0
     ·rw [if_pos c34] at H
      have c34b0 : decide (t402 < 0) = true := decide_eq_true c34
      clear c34
      (first | rw [c34b0] | (simp only [zr, zt]; rw [c34b0]) | skip)
      have H' := Aside0.mk H
      clear H
      go_wp2
      go_meet
      case rel => exact ⟨_, (true), (by first | rfl | (simp [*]; done)), H', ⟨by first | omega | exact Nat.le_refl _⟩, ⟨RL zM.out⟩, ⟨RL zN.out⟩, ⟨RL zQ.out⟩, ⟨RL zR.out⟩, ⟨BL zD.out⟩, ⟨BL zC.out⟩, ⟨by repeat (first | (with_reducible first | exact HB.out | apply zh | apply zd | apply zi | refine zl ?_ zU.out | refine zl ?_ zcb.out) | exact HB.out)⟩⟩
     ·rw [if_neg c34] at H
      have c34b0 : decide (t402 < 0) = false := decide_eq_false c34
      clear c34
      (first | rw [c34b0] | (simp only [zr, zt]; rw [c34b0]) | skip)
      replace H := Option.bind_eq_some_iff.mp H
      obtain ⟨t404, A350, H⟩ := H
      try dsimp only at H
      have A35 := Aside0.mk A350
      clear A350
      have H' := Aside0.mk H
      clear H
      have zJf := zY.out
      have zKf := zP.out
      have zLb : w33.cell? ⟨zE, 0, none⟩ = some (.int .i64 t387) := (zc zC.out 0).trans rfl
      have zMb : w33.cell? ⟨zE, 1, none⟩ = some (.slice Ao27 t388.length co27) := (zc zC.out 1).trans rfl
      have zNb : w33.cell? ⟨zE, 2, none⟩ = some (.bool t391) := (zc zC.out 2).trans rfl
      have zOb : w33.cell? ⟨zE, 3, none⟩ = some (.string t392) := (zc zC.out 3).trans rfl
      have zPb : w33.cell? ⟨zE, 4, none⟩ = some (.slice Ao28 t393.length co28) := (zc zC.out 4).trans rfl
      have zQb := zb zC.out 0
      have zRb := zb zC.out 1
      have zSb := zb zC.out 2
      have zTb := zb zC.out 3
      have zUb := zb zC.out 4
      have zVb : w33.cell? ⟨zH, 0, none⟩ = some (.int .i64 t374) := (zc zD.out 0).trans rfl
      have zWb : w33.cell? ⟨zH, 1, none⟩ = some (.slice Ao19 t375.length co19) := (zc zD.out 1).trans rfl
      have zXb : w33.cell? ⟨zH, 2, none⟩ = some (.bool t378) := (zc zD.out 2).trans rfl
      have zYb : w33.cell? ⟨zH, 3, none⟩ = some (.string t379) := (zc zD.out 3).trans rfl
      have zZb : w33.cell? ⟨zH, 4, none⟩ = some (.slice Ao20 t380.length co20) := (zc zD.out 4).trans rfl
      have zac := zb zD.out 0
      have zbc := zb zD.out 1
      have zcc := zb zD.out 2
      have zdc := zb zD.out 3
      have zec := zb zD.out 4
      go_wp2_with (first | (go_at_call 30; (with_reducible refine (laws_eqLine.calls k t387 _ _ t388 t391 t392 _ _ t393 t374 _ _ t375 t378 t379 _ _ t380 t404 _ ?side1 ?side2 ?side3 ?side4 ?side5 ?side6 ?side7 ?side8 A35.out).mono ?_); (case side1 => repeat (first | exact (Kd.R_reads' zQ.out).2.2 | (with_reducible refine Kd.C_alloc ?_ _) | (with_reducible refine Kd.C_drewN ?_ _) | (with_reducible refine Kd.C_drew ?_))); (case side2 => exact (Kd.R_reads' zQ.out).2.1); (case side3 => repeat (first | exact (Kd.R_reads' zR.out).2.2 | (with_reducible refine Kd.C_alloc ?_ _) | (with_reducible refine Kd.C_drewN ?_ _) | (with_reducible refine Kd.C_drew ?_))); (case side4 => exact (Kd.R_reads' zR.out).2.1); (case side5 => repeat (first | exact (Kd.R_reads' zM.out).2.2 | (with_reducible refine Kd.C_alloc ?_ _) | (with_reducible refine Kd.C_drewN ?_ _) | (with_reducible refine Kd.C_drew ?_))); (case side6 => exact (Kd.R_reads' zM.out).2.1); (case side7 => repeat (first | exact (Kd.R_reads' zN.out).2.2 | (with_reducible refine Kd.C_alloc ?_ _) | (with_reducible refine Kd.C_drewN ?_ _) | (with_reducible refine Kd.C_drew ?_))); (case side8 => exact (Kd.R_reads' zN.out).2.1); rintro e w39 ⟨rfl, hb⟩; have n0_ := Aside0.mk (Kd.R_below (RL zL.out) hb); have n1_ := Aside0.mk (Kd.R_below (RL zM.out) hb); have n2_ := Aside0.mk (Kd.R_below (RL zN.out) hb); have n3_ := Aside0.mk (Kd.R_below (RL zO.out) hb); have n4_ := Aside0.mk (Kd.R_below (RL zQ.out) hb); have n5_ := Aside0.mk (Kd.R_below (RL zR.out) hb); have n6_ := Aside0.mk (Kd.R_below (RL zdb.out) hb); have n7_ := Aside0.mk (zp (g := zH) (o := .cells #[.int .i64 t374, .slice Ao19 t375.length co19, .bool t378, .string t379, .slice Ao20 t380.length co20] 66 (0, 0)) (BL zD.out) hb); have n8_ := Aside0.mk (zp (g := zE) (o := .cells #[.int .i64 t387, .slice Ao27 t388.length co27, .bool t391, .string t392, .slice Ao28 t393.length co28] 66 (0, 0)) (BL zC.out) hb); have n9_ := Aside0.mk (zm (by exact bl HB.out) hb); clear zL; clear zM; clear zN; clear zO; clear zQ; clear zR; clear zdb; clear zD; clear zC; clear HB; have zL := n0_; have zM := n1_; have zN := n2_; have zO := n3_; have zQ := n4_; have zR := n5_; have zdb := n6_; have zD := n7_; have zC := n8_; have HB := n9_; clear n0_ n1_ n2_ n3_ n4_ n5_ n6_ n7_ n8_ n9_; (try clear hb); (try clear hb2); (try clear hk); (try clear hi)))
      go_meet
      case rel => exact ⟨_, (!t404), (by first | rfl | (simp [*]; done)), H', ⟨by first | omega | exact Nat.le_refl _⟩, ⟨RL zM.out⟩, ⟨RL zN.out⟩, ⟨RL zQ.out⟩, ⟨RL zR.out⟩, ⟨BL zD.out⟩, ⟨BL zC.out⟩, ⟨by repeat (first | (with_reducible first | exact HB.out | apply zh | apply zd | apply zi | refine zl ?_ zU.out | refine zl ?_ zcb.out) | exact HB.out)⟩⟩
    case rest =>
     clear HC13
     try clear c1
     try clear c2
     try clear c2b0
     try clear c2b1
     try clear p2
     try clear c3
     try clear c5
     try clear c8
     try clear c11
     try clear c25
     try clear c27
     try clear c28
     try clear c29
     try clear c30
     try clear c31
     try clear c32
     try clear c34
     try clear c34b0
     try clear c36
     try clear zhb
     try clear zib
     try clear zjb
     try clear zkb
     try clear zlb
     try clear zrb
     try clear zsb
     try clear ztb
     try clear zub
     try clear zvb
     try clear zBb
     try clear zCb
     try clear zDb
     try clear zEb
     try clear zFb
     try clear zLb
     try clear zMb
     try clear zNb
     try clear zOb
     try clear zPb
     try clear zVb
     try clear zWb
     try clear zXb
     try clear zYb
     try clear zZb
     try clear zmb
     try clear znb
     try clear zob
     try clear zpb
     try clear zqb
     try clear zwb
     try clear zxb
     try clear zyb
     try clear zzb
     try clear zAb
     try clear zGb
     try clear zHb
     try clear zIb
     try clear zJb
     try clear zKb
     try clear zQb
     try clear zRb
     try clear zSb
     try clear zTb
     try clear zUb
     try clear zac
     try clear zbc
     try clear zcc
     try clear zdc
     try clear zec
     obtain ⟨kq, x39_12, rfl, HA, HJ12, zJ, zK, zF, zG, zD, zC, HB⟩ := hcut
     cases kq with
     | zero => exact absurd HA.out (by simp [laws_FnExactParseLine.j0])
     | succ kj12 =>
      have H := HA.out
      clear HA
      simp only [laws_FnExactParseLine.j0] at H
      by_cases c40 : x39_12 = true
      ·subst c40
       rw [if_pos rfl] at H
       obtain rfl := Option.some.inj H
       go_wp2
       go_ret
       exact ⟨by first | rfl | (simp [*] <;> rfl), by repeat (first | (with_reducible first | exact HB.out | apply zh | apply zd | apply zi | refine zl ?_ zU.out | refine zl ?_ zcb.out) | exact HB.out)⟩
      ·replace c40 := Bool.eq_false_iff.mpr c40
       subst c40
       rw [if_neg (show ¬ (false = true) by decide)] at H
       replace H := Option.bind_eq_some_iff.mp H
       obtain ⟨⟨t405, t406, t407⟩, A410, H⟩ := H
       try dsimp only at H
       have A41 := Aside0.mk A410
       clear A410
       replace H := Option.bind_eq_some_iff.mp H
       obtain ⟨t408, A420, H⟩ := H
       try dsimp only at H
       have A42 := Aside0.mk A420
       clear A420
       by_cases c43 : t408 < 0
       ·rw [if_pos c43] at H
        have c43b0 : decide (t408 < 0) = true := decide_eq_true c43
        clear c43
        obtain rfl := Option.some.inj H
        have zLf := zY.out
        have zMf := zP.out
        have zdd : wc.cell? ⟨zE, 0, none⟩ = some (.int .i64 t387) := (zc zC.out 0).trans rfl
        have zed : wc.cell? ⟨zE, 1, none⟩ = some (.slice Ao27 t388.length co27) := (zc zC.out 1).trans rfl
        have zfd : wc.cell? ⟨zE, 2, none⟩ = some (.bool t391) := (zc zC.out 2).trans rfl
        have zgd : wc.cell? ⟨zE, 3, none⟩ = some (.string t392) := (zc zC.out 3).trans rfl
        have zhd : wc.cell? ⟨zE, 4, none⟩ = some (.slice Ao28 t393.length co28) := (zc zC.out 4).trans rfl
        have zid := zb zC.out 0
        have zjd := zb zC.out 1
        have zkd := zb zC.out 2
        have zld := zb zC.out 3
        have zmd := zb zC.out 4
        go_wp2_with (first | ((with_reducible refine zo (f := 33) rfl ?_); refine zy (some 42) rfl rfl Tryd.func33 (by kernel_rfl) rfl #[.agg #[.int .i64 t387, .slice Ao27 t388.length co27, .bool t391, .string t392, .slice Ao28 t393.length co28], .int .i64 1] rfl (by (try simp only [List.map_toArray, List.map_cons, List.map_nil]); first | done | rfl) ?_; (with_reducible refine (laws_markLine.calls kj12 t387 (fun k_ => some k_ = (.slice Ao27 t388.length co27 : Value).ownBlock) (.slice Ao27 t388.length co27) t388 t391 t392 (fun k_ => some k_ = (.slice Ao28 t393.length co28 : Value).ownBlock) (.slice Ao28 t393.length co28) t393 1 t405 t406 t407 w _ ?side1 ?side2 ?side3 A41.out).mono ?_); (case side1 => exact bl HB.out); (case side2 => exact Kd.R_tight rfl zF.out); (case side3 => exact Kd.R_tight rfl zG.out); rintro e w46 ⟨rfl, hy0, hy1, hb, hkp⟩; refine ⟨_, rfl, ?_⟩; have n0_ := Aside0.mk (Kd.R_mono (ok' := fun k_ => some k_ ≠ (.slice Ao27 t388.length co27 : Value).ownBlock) (Kd.R_keptB ((Kd.R_apart' zJ.out (Kd.R_typed zG.out) (by decide))) hkp (fun k_ hk_ hs_ => Or.elim hs_ (fun e_ => (hk_.1) e_) (fun e_ => (hk_.2) e_))) (fun k_ hk_ => hk_.1.1)); have n1_ := Aside0.mk (Kd.R_mono (ok' := fun k_ => some k_ ≠ (.slice Ao28 t393.length co28 : Value).ownBlock) (Kd.R_keptB ((Kd.R_apart' zK.out (Kd.R_typed zF.out) (by decide))) hkp (fun k_ hk_ hs_ => Or.elim hs_ (fun e_ => (hk_.2) e_) (fun e_ => (hk_.1) e_))) (fun k_ hk_ => hk_.1.1)); have n2_ := Aside0.mk (Kd.R_reok rfl hy0 (fun k_ e_ => zF.out.1 k_ e_)); have n3_ := Aside0.mk (Kd.R_reok rfl hy1 (fun k_ e_ => zG.out.1 k_ e_)); have n4_ := Aside0.mk (blk_kept (BL zD.out) hkp (fun hs_ => Or.elim hs_ (fun e_ => (fun e_ => (Kd.R_ne zF.out zD.out (by decide)) e_) e_) (fun e_ => (fun e_ => (Kd.R_ne zG.out zD.out (by decide)) e_) e_))); have n5_ := Aside0.mk (blk_kept (BL zC.out) hkp (fun hs_ => Or.elim hs_ (fun e_ => (fun e_ => (Kd.R_ne zF.out zC.out (by decide)) e_) e_) (fun e_ => (fun e_ => (Kd.R_ne zG.out zC.out (by decide)) e_) e_))); have n6_ := Aside0.mk (hb); clear zJ; clear zK; clear zF; clear zG; clear zD; clear zC; clear HB; have zJ := n0_; have zK := n1_; have zF := n2_; have zG := n3_; have zD := n4_; have zC := n5_; have HB := n6_; clear n0_ n1_ n2_ n3_ n4_ n5_ n6_; (try clear hb); (try clear hkp); (try clear hy0); (try clear hy1); have znd : w46.cell? ⟨zE, 0, none⟩ = some (.int .i64 t387) := (zc zC.out 0).trans rfl; have zod : w46.cell? ⟨zE, 1, none⟩ = some (.slice Ao27 t388.length co27) := (zc zC.out 1).trans rfl; have zpd : w46.cell? ⟨zE, 2, none⟩ = some (.bool t391) := (zc zC.out 2).trans rfl; have zqd : w46.cell? ⟨zE, 3, none⟩ = some (.string t392) := (zc zC.out 3).trans rfl; have zrd : w46.cell? ⟨zE, 4, none⟩ = some (.slice Ao28 t393.length co28) := (zc zC.out 4).trans rfl; have zsd := zb zC.out 0; have ztd := zb zC.out 1; have zud := zb zC.out 2; have zvd := zb zC.out 3; have zwd := zb zC.out 4) | ((with_reducible refine zo (f := 34) rfl ?_); refine zy (some 45) rfl rfl Tryd.func34 (by kernel_rfl) rfl #[.agg #[.int .i64 t387, .slice Ao27 t406.length co27, .bool t391, .string t392, .slice Ao28 t407.length co28], .int .i64 1] rfl (by (try simp only [List.map_toArray, List.map_cons, List.map_nil]); first | done | (rw [show t406.length = t388.length from (Kd.R_reads' zF.out).1.symm, show t407.length = t393.length from (Kd.R_reads' zG.out).1.symm] <;> rfl) | rfl | (simp only [List.length_drop, List.length_take]; rfl)) ?_; (with_reducible refine (laws_heldLine.calls kj12 t387 _ _ t406 t391 t392 _ _ t407 1 t408 _ ?side1 ?side2 ?side3 ?side4 A42.out).mono ?_); (case side1 => repeat (first | exact (Kd.R_reads' zF.out).2.2 | (with_reducible refine Kd.C_alloc ?_ _) | (with_reducible refine Kd.C_drewN ?_ _) | (with_reducible refine Kd.C_drew ?_))); (case side2 => rw [show t406.length = t388.length from (Kd.R_reads' zF.out).1.symm]; exact (Kd.R_reads' zF.out).2.1); (case side3 => repeat (first | exact (Kd.R_reads' zG.out).2.2 | (with_reducible refine Kd.C_alloc ?_ _) | (with_reducible refine Kd.C_drewN ?_ _) | (with_reducible refine Kd.C_drew ?_))); (case side4 => rw [show t407.length = t393.length from (Kd.R_reads' zG.out).1.symm]; exact (Kd.R_reads' zG.out).2.1); rintro e w48 ⟨rfl, hb⟩; refine ⟨_, rfl, ?_⟩; have n0_ := Aside0.mk (Kd.R_below (RL zJ.out) hb); have n1_ := Aside0.mk (Kd.R_below (RL zK.out) hb); have n2_ := Aside0.mk (Kd.R_below (RL zF.out) hb); have n3_ := Aside0.mk (Kd.R_below (RL zG.out) hb); have n4_ := Aside0.mk (zp (g := zH) (o := .cells #[.int .i64 t374, .slice Ao19 t375.length co19, .bool t378, .string t379, .slice Ao20 t380.length co20] 66 (0, 0)) (BL zD.out) hb); have n5_ := Aside0.mk (zp (g := zE) (o := .cells #[.int .i64 t387, .slice Ao27 t388.length co27, .bool t391, .string t392, .slice Ao28 t393.length co28] 66 (0, 0)) (BL zC.out) hb); have n6_ := Aside0.mk (zm (by exact bl HB.out) hb); clear zJ; clear zK; clear zF; clear zG; clear zD; clear zC; clear HB; have zJ := n0_; have zK := n1_; have zF := n2_; have zG := n3_; have zD := n4_; have zC := n5_; have HB := n6_; clear n0_ n1_ n2_ n3_ n4_ n5_ n6_; (try clear hb); (try clear hb2); (try clear hk); (try clear hi)))
        go_ret
        exact ⟨by first | rfl | (simp [*] <;> rfl), by repeat (first | (with_reducible first | exact HB.out | apply zh | apply zd | apply zi | refine zl ?_ zU.out | refine zl ?_ zcb.out) | exact HB.out)⟩
       ·rw [if_neg c43] at H
        have c43b0 : decide (t408 < 0) = false := decide_eq_false c43
        clear c43
        by_cases c49 : t408 = t405
        ·rw [if_pos c49] at H
         have c49b0 : (t408 == t405) = true := beq_iff_eq.mpr c49
         have c49b1 : (t408 != t405) = false := bne_eq_false_iff_eq.mpr c49
         clear c49
         replace H := Option.bind_eq_some_iff.mp H
         obtain ⟨t409, A500, H⟩ := H
         try dsimp only at H
         have A50 := Aside0.mk A500
         clear A500
         replace H := Option.bind_eq_some_iff.mp H
         obtain ⟨⟨t412, t413, t416, t417, t418⟩, A510, H⟩ := H
         try dsimp only at H
         have A51 := Aside0.mk A510
         clear A510
         replace H := Option.bind_eq_some_iff.mp H
         obtain ⟨t422, A520, H⟩ := H
         try dsimp only at H
         have A52 := Aside0.mk A520
         clear A520
         by_cases c53 : t422 = true
         ·subst c53
          rw [if_pos rfl] at H
          obtain rfl := Option.some.inj H
          have zNf := zY.out
          have zOf := zP.out
          have zxd : wc.cell? ⟨zE, 0, none⟩ = some (.int .i64 t387) := (zc zC.out 0).trans rfl
          have zyd : wc.cell? ⟨zE, 1, none⟩ = some (.slice Ao27 t388.length co27) := (zc zC.out 1).trans rfl
          have zzd : wc.cell? ⟨zE, 2, none⟩ = some (.bool t391) := (zc zC.out 2).trans rfl
          have zAd : wc.cell? ⟨zE, 3, none⟩ = some (.string t392) := (zc zC.out 3).trans rfl
          have zBd : wc.cell? ⟨zE, 4, none⟩ = some (.slice Ao28 t393.length co28) := (zc zC.out 4).trans rfl
          have zCd := zb zC.out 0
          have zDd := zb zC.out 1
          have zEd := zb zC.out 2
          have zFd := zb zC.out 3
          have zGd := zb zC.out 4
          go_wp2_with (first | ((with_reducible refine zo (f := 33) rfl ?_); refine zy (some 42) rfl rfl Tryd.func33 (by kernel_rfl) rfl #[.agg #[.int .i64 t387, .slice Ao27 t388.length co27, .bool t391, .string t392, .slice Ao28 t393.length co28], .int .i64 1] rfl (by (try simp only [List.map_toArray, List.map_cons, List.map_nil]); first | done | rfl) ?_; (with_reducible refine (laws_markLine.calls kj12 t387 (fun k_ => some k_ = (.slice Ao27 t388.length co27 : Value).ownBlock) (.slice Ao27 t388.length co27) t388 t391 t392 (fun k_ => some k_ = (.slice Ao28 t393.length co28 : Value).ownBlock) (.slice Ao28 t393.length co28) t393 1 t405 t406 t407 w _ ?side1 ?side2 ?side3 A41.out).mono ?_); (case side1 => exact bl HB.out); (case side2 => exact Kd.R_tight rfl zF.out); (case side3 => exact Kd.R_tight rfl zG.out); rintro e w56 ⟨rfl, hy0, hy1, hb, hkp⟩; refine ⟨_, rfl, ?_⟩; have n0_ := Aside0.mk (Kd.R_mono (ok' := fun k_ => some k_ ≠ (.slice Ao27 t388.length co27 : Value).ownBlock) (Kd.R_keptB ((Kd.R_apart' zJ.out (Kd.R_typed zG.out) (by decide))) hkp (fun k_ hk_ hs_ => Or.elim hs_ (fun e_ => (hk_.1) e_) (fun e_ => (hk_.2) e_))) (fun k_ hk_ => hk_.1.1)); have n1_ := Aside0.mk (Kd.R_mono (ok' := fun k_ => some k_ ≠ (.slice Ao28 t393.length co28 : Value).ownBlock) (Kd.R_keptB ((Kd.R_apart' zK.out (Kd.R_typed zF.out) (by decide))) hkp (fun k_ hk_ hs_ => Or.elim hs_ (fun e_ => (hk_.2) e_) (fun e_ => (hk_.1) e_))) (fun k_ hk_ => hk_.1.1)); have n2_ := Aside0.mk (Kd.R_reok rfl hy0 (fun k_ e_ => zF.out.1 k_ e_)); have n3_ := Aside0.mk (Kd.R_reok rfl hy1 (fun k_ e_ => zG.out.1 k_ e_)); have n4_ := Aside0.mk (blk_kept (BL zD.out) hkp (fun hs_ => Or.elim hs_ (fun e_ => (fun e_ => (Kd.R_ne zF.out zD.out (by decide)) e_) e_) (fun e_ => (fun e_ => (Kd.R_ne zG.out zD.out (by decide)) e_) e_))); have n5_ := Aside0.mk (blk_kept (BL zC.out) hkp (fun hs_ => Or.elim hs_ (fun e_ => (fun e_ => (Kd.R_ne zF.out zC.out (by decide)) e_) e_) (fun e_ => (fun e_ => (Kd.R_ne zG.out zC.out (by decide)) e_) e_))); have n6_ := Aside0.mk (hb); clear zJ; clear zK; clear zF; clear zG; clear zD; clear zC; clear HB; have zJ := n0_; have zK := n1_; have zF := n2_; have zG := n3_; have zD := n4_; have zC := n5_; have HB := n6_; clear n0_ n1_ n2_ n3_ n4_ n5_ n6_; (try clear hb); (try clear hkp); (try clear hy0); (try clear hy1); have zHd : w56.cell? ⟨zE, 0, none⟩ = some (.int .i64 t387) := (zc zC.out 0).trans rfl; have zId : w56.cell? ⟨zE, 1, none⟩ = some (.slice Ao27 t388.length co27) := (zc zC.out 1).trans rfl; have zJd : w56.cell? ⟨zE, 2, none⟩ = some (.bool t391) := (zc zC.out 2).trans rfl; have zKd : w56.cell? ⟨zE, 3, none⟩ = some (.string t392) := (zc zC.out 3).trans rfl; have zLd : w56.cell? ⟨zE, 4, none⟩ = some (.slice Ao28 t393.length co28) := (zc zC.out 4).trans rfl; have zMd := zb zC.out 0; have zNd := zb zC.out 1; have zOd := zb zC.out 2; have zPd := zb zC.out 3; have zQd := zb zC.out 4) | ((with_reducible refine zo (f := 34) rfl ?_); refine zy (some 45) rfl rfl Tryd.func34 (by kernel_rfl) rfl #[.agg #[.int .i64 t387, .slice Ao27 t406.length co27, .bool t391, .string t392, .slice Ao28 t407.length co28], .int .i64 1] rfl (by (try simp only [List.map_toArray, List.map_cons, List.map_nil]); first | done | (rw [show t406.length = t388.length from (Kd.R_reads' zF.out).1.symm, show t407.length = t393.length from (Kd.R_reads' zG.out).1.symm] <;> rfl) | rfl | (simp only [List.length_drop, List.length_take]; rfl)) ?_; (with_reducible refine (laws_heldLine.calls kj12 t387 _ _ t406 t391 t392 _ _ t407 1 t408 _ ?side1 ?side2 ?side3 ?side4 A42.out).mono ?_); (case side1 => repeat (first | exact (Kd.R_reads' zF.out).2.2 | (with_reducible refine Kd.C_alloc ?_ _) | (with_reducible refine Kd.C_drewN ?_ _) | (with_reducible refine Kd.C_drew ?_))); (case side2 => rw [show t406.length = t388.length from (Kd.R_reads' zF.out).1.symm]; exact (Kd.R_reads' zF.out).2.1); (case side3 => repeat (first | exact (Kd.R_reads' zG.out).2.2 | (with_reducible refine Kd.C_alloc ?_ _) | (with_reducible refine Kd.C_drewN ?_ _) | (with_reducible refine Kd.C_drew ?_))); (case side4 => rw [show t407.length = t393.length from (Kd.R_reads' zG.out).1.symm]; exact (Kd.R_reads' zG.out).2.1); rintro e w58 ⟨rfl, hb⟩; refine ⟨_, rfl, ?_⟩; have n0_ := Aside0.mk (Kd.R_below (RL zJ.out) hb); have n1_ := Aside0.mk (Kd.R_below (RL zK.out) hb); have n2_ := Aside0.mk (Kd.R_below (RL zF.out) hb); have n3_ := Aside0.mk (Kd.R_below (RL zG.out) hb); have n4_ := Aside0.mk (zp (g := zH) (o := .cells #[.int .i64 t374, .slice Ao19 t375.length co19, .bool t378, .string t379, .slice Ao20 t380.length co20] 66 (0, 0)) (BL zD.out) hb); have n5_ := Aside0.mk (zp (g := zE) (o := .cells #[.int .i64 t387, .slice Ao27 t388.length co27, .bool t391, .string t392, .slice Ao28 t393.length co28] 66 (0, 0)) (BL zC.out) hb); have n6_ := Aside0.mk (zm (by exact bl HB.out) hb); clear zJ; clear zK; clear zF; clear zG; clear zD; clear zC; clear HB; have zJ := n0_; have zK := n1_; have zF := n2_; have zG := n3_; have zD := n4_; have zC := n5_; have HB := n6_; clear n0_ n1_ n2_ n3_ n4_ n5_ n6_; (try clear hb); (try clear hb2); (try clear hk); (try clear hi)) | ((with_reducible refine zo (f := 28) rfl ?_); refine zy (some 52) rfl rfl Tryd.func28 (by kernel_rfl) rfl #[.slice A0 l0.length c0] rfl (by (try simp only [List.map_toArray, List.map_cons, List.map_nil]); first | done | rfl) ?_; (with_reducible refine (laws_toByteS.calls kj12 _ _ l0 t409 _ ?side1 ?side2 A50.out).mono ?_); (case side1 => repeat (first | exact (Kd.C_below HR0.out HB.out) | (with_reducible refine Kd.C_alloc ?_ _) | (with_reducible refine Kd.C_drewN ?_ _) | (with_reducible refine Kd.C_drew ?_))); (case side2 => exact HC0.out); rintro e w59 ⟨v410, rfl, zT, hb⟩; refine ⟨_, rfl, ?_⟩; have n0_ := Aside0.mk (Kd.R_below (RL zJ.out) hb); have n1_ := Aside0.mk (Kd.R_below (RL zK.out) hb); have n2_ := Aside0.mk (Kd.R_below (RL zF.out) hb); have n3_ := Aside0.mk (Kd.R_below (RL zG.out) hb); have n4_ := Aside0.mk (Kd.R_lower zT (zn (by exact bl HB.out))); have n5_ := Aside0.mk (zp (g := zH) (o := .cells #[.int .i64 t374, .slice Ao19 t375.length co19, .bool t378, .string t379, .slice Ao20 t380.length co20] 66 (0, 0)) (BL zD.out) hb); have n6_ := Aside0.mk (zp (g := zE) (o := .cells #[.int .i64 t387, .slice Ao27 t388.length co27, .bool t391, .string t392, .slice Ao28 t393.length co28] 66 (0, 0)) (BL zC.out) hb); have n7_ := Aside0.mk (zm (by exact bl HB.out) hb); clear zJ; clear zK; clear zF; clear zG; clear zD; clear zC; clear HB; have zJ := n0_; have zK := n1_; have zF := n2_; have zG := n3_; have zV := n4_; have zD := n5_; have zC := n6_; have HB := n7_; clear n0_ n1_ n2_ n3_ n4_ n5_ n6_ n7_; (try clear hb); (try clear hb2); (try clear hk); (try clear hi); (try clear zT); obtain ⟨Ao60, co60, eo60⟩ := Kd.R_slice zV.out; subst eo60) | ((with_reducible refine zo (f := 29) rfl ?_); refine zy (some 53) rfl rfl Tryd.func29 (by kernel_rfl) rfl #[.slice Ao60 t409.length co60] rfl (by (try simp only [List.map_toArray, List.map_cons, List.map_nil]); first | done | rfl) ?_; (with_reducible refine (impl_ParseLine.calls kj12 _ _ t409 t412 t413 t416 t417 t418 _ ?side1 ?side2 A51.out ?globMAX_).mono ?_); (case globMAX_ => exact Go.Proofs.YtfiojiokmkiflaaDoorH.GFMAX.below HGMAX_.out (by repeat (first | (with_reducible first | exact HB.out | exact Below.refl _ _ | apply zh | apply zd | apply zi | refine zl ?_ (Aside0.out (by assumption))) | exact HB.out))); (case side1 => repeat (first | exact (Kd.R_reads' zV.out).2.2 | (with_reducible refine Kd.C_alloc ?_ _) | (with_reducible refine Kd.C_drewN ?_ _) | (with_reducible refine Kd.C_drew ?_))); (case side2 => exact (Kd.R_reads' zV.out).2.1); rintro e w61 ⟨v414, v419, rfl, zT, zZ, hb⟩; refine ⟨_, rfl, ?_⟩; have n0_ := Aside0.mk (Kd.R_elder' (RL zJ.out) (Kd.R_base zT) hb); have n1_ := Aside0.mk (Kd.R_elder' (RL zK.out) (Kd.R_base zZ) hb); have n2_ := Aside0.mk (Kd.R_elder' (RL zF.out) (Kd.R_base zT) hb); have n3_ := Aside0.mk (Kd.R_elder' (RL zG.out) (Kd.R_base zZ) hb); have n4_ := Aside0.mk (Kd.R_below (RL zV.out) hb); have n5_ := Aside0.mk (Kd.R_lower (Kd.R_new' (Kd.R_new' zT (Kd.R_lt (RL zJ.out))) (Kd.R_lt (RL zF.out))) (zn (by exact bl HB.out))); have n6_ := Aside0.mk (Kd.R_lower (Kd.R_new' (Kd.R_new' zZ (Kd.R_lt (RL zK.out))) (Kd.R_lt (RL zG.out))) (zn (by exact bl HB.out))); have n7_ := Aside0.mk (zp (g := zH) (o := .cells #[.int .i64 t374, .slice Ao19 t375.length co19, .bool t378, .string t379, .slice Ao20 t380.length co20] 66 (0, 0)) (BL zD.out) hb); have n8_ := Aside0.mk (zp (g := zE) (o := .cells #[.int .i64 t387, .slice Ao27 t388.length co27, .bool t391, .string t392, .slice Ao28 t393.length co28] 66 (0, 0)) (BL zC.out) hb); have n9_ := Aside0.mk (zm (by exact bl HB.out) hb); clear zJ; clear zK; clear zF; clear zG; clear zV; clear zD; clear zC; clear HB; have zJ := n0_; have zK := n1_; have zF := n2_; have zG := n3_; have zV := n4_; have zab := n5_; have zbb := n6_; have zD := n7_; have zC := n8_; have HB := n9_; clear n0_ n1_ n2_ n3_ n4_ n5_ n6_ n7_ n8_ n9_; (try clear hb); (try clear hb2); (try clear hk); (try clear hi); (try clear zT); (try clear zZ)) | ((with_reducible refine zu (N := 9) rfl ?_); refine zz ?hg (N := 9) ?hd (cs := #[.int .i64 0, .slice none 0 0, .bool false, .string (⟨#[]⟩ : ByteArray), .slice none 0 0]) (t := 66) ?hr ?_; (case hd => rfl); (case hg => rfl); (case hr => first | (go_simp; done) | (go_simp; rfl)); intro zI hg w62 hbox hb; have n0_ := Aside0.mk (Kd.R_below (RL zJ.out) hb); have n1_ := Aside0.mk (Kd.R_below (RL zK.out) hb); have n2_ := Aside0.mk (Kd.R_below (RL zF.out) hb); have n3_ := Aside0.mk (Kd.R_below (RL zG.out) hb); have n4_ := Aside0.mk (Kd.R_below (RL zV.out) hb); have n5_ := Aside0.mk (Kd.R_below (RL zab.out) hb); have n6_ := Aside0.mk (Kd.R_below (RL zbb.out) hb); have n7_ := Aside0.mk (zp (g := zH) (o := .cells #[.int .i64 t374, .slice Ao19 t375.length co19, .bool t378, .string t379, .slice Ao20 t380.length co20] 66 (0, 0)) (BL zD.out) hb); have n8_ := Aside0.mk (zp (g := zE) (o := .cells #[.int .i64 t387, .slice Ao27 t388.length co27, .bool t391, .string t392, .slice Ao28 t393.length co28] 66 (0, 0)) (BL zC.out) hb); have n9_ := Aside0.mk (zm (by exact bl HB.out) hb); have n10_ := Aside0.mk (hbox); have n11_ := Aside0.mk ((by rw [hg]; exact (zn (by exact bl HB.out)) : w.heap.size ≤ zI)); have n12_ := Aside0.mk ((by rw [hg]; exact (zn (by exact bl HB.out)) : w.heap.size ≤ zI)); have n13_ := Aside0.mk ((by rw [hg]; exact Nat.ne_of_lt (zB (g := zH) (o := .cells #[.int .i64 t374, .slice Ao19 t375.length co19, .bool t378, .string t379, .slice Ao20 t380.length co20] 66 (0, 0)) (BL zD.out)) : zH ≠ zI)); have n14_ := Aside0.mk ((by rw [hg]; exact Nat.ne_of_gt (zB (g := zH) (o := .cells #[.int .i64 t374, .slice Ao19 t375.length co19, .bool t378, .string t379, .slice Ao20 t380.length co20] 66 (0, 0)) (BL zD.out)) : zI ≠ zH)); have n15_ := Aside0.mk ((by rw [hg]; exact Nat.ne_of_lt (zB (g := zE) (o := .cells #[.int .i64 t387, .slice Ao27 t388.length co27, .bool t391, .string t392, .slice Ao28 t393.length co28] 66 (0, 0)) (BL zC.out)) : zE ≠ zI)); have n16_ := Aside0.mk ((by rw [hg]; exact Nat.ne_of_gt (zB (g := zE) (o := .cells #[.int .i64 t387, .slice Ao27 t388.length co27, .bool t391, .string t392, .slice Ao28 t393.length co28] 66 (0, 0)) (BL zC.out)) : zI ≠ zE)); clear zJ; clear zK; clear zF; clear zG; clear zV; clear zab; clear zbb; clear zD; clear zC; clear HB; have zJ := n0_; have zK := n1_; have zF := n2_; have zG := n3_; have zV := n4_; have zab := n5_; have zbb := n6_; have zD := n7_; have zC := n8_; have HB := n9_; have zS := n10_; have GW421 := n11_; have zgb := n12_; have zW := n13_; have zeb := n14_; have zX := n15_; have zfb := n16_; clear n0_ n1_ n2_ n3_ n4_ n5_ n6_ n7_ n8_ n9_ n10_ n11_ n12_ n13_ n14_ n15_ n16_; clear hb hbox hg; have zPf := zeb.out; have zQf := zW.out; have zRf := zfb.out; have zSf := zX.out; have zRd : w62.cell? ⟨zI, 0, none⟩ = some (.int .i64 0) := (zc zS.out 0).trans rfl; have zSd : w62.cell? ⟨zI, 1, none⟩ = some (.slice none 0 0) := (zc zS.out 1).trans rfl; have zTd : w62.cell? ⟨zI, 2, none⟩ = some (.bool false) := (zc zS.out 2).trans rfl; have zUd : w62.cell? ⟨zI, 3, none⟩ = some (.string (⟨#[]⟩ : ByteArray)) := (zc zS.out 3).trans rfl; have zVd : w62.cell? ⟨zI, 4, none⟩ = some (.slice none 0 0) := (zc zS.out 4).trans rfl; have zWd := zb zS.out 0; have zXd := zb zS.out 1; have zYd := zb zS.out 2; have zZd := zb zS.out 3; have zae := zb zS.out 4; obtain ⟨Ao66, co66, eo66⟩ := Kd.R_slice zab.out; subst eo66; obtain ⟨Ao67, co67, eo67⟩ := Kd.R_slice zbb.out; subst eo67; have zbe : w62.cell? ⟨zH, 0, none⟩ = some (.int .i64 t374) := (zc zD.out 0).trans rfl; have zce : w62.cell? ⟨zH, 1, none⟩ = some (.slice Ao19 t375.length co19) := (zc zD.out 1).trans rfl; have zde : w62.cell? ⟨zH, 2, none⟩ = some (.bool t378) := (zc zD.out 2).trans rfl; have zee : w62.cell? ⟨zH, 3, none⟩ = some (.string t379) := (zc zD.out 3).trans rfl; have zfe : w62.cell? ⟨zH, 4, none⟩ = some (.slice Ao20 t380.length co20) := (zc zD.out 4).trans rfl; have zge := zb zD.out 0; have zhe := zb zD.out 1; have zie := zb zD.out 2; have zje := zb zD.out 3; have zke := zb zD.out 4) | ((with_reducible refine zo (f := 30) rfl ?_); have y0_ := Aside0.mk (Kd.R_mono (Kd.R_far (p := ⟨zI, 4, none⟩) (Kd.R_far (p := ⟨zI, 3, none⟩) (Kd.R_far (p := ⟨zI, 2, none⟩) (Kd.R_far (p := ⟨zI, 1, none⟩) (Kd.R_far (p := ⟨zI, 0, none⟩) (Kd.R_types zJ.out zS.out (by decide)) (fun _ hk => hk.2) (.int .i64 t412)) (fun _ hk => hk.2) (.slice Ao66 t413.length co66)) (fun _ hk => hk.2) (.bool t416)) (fun _ hk => hk.2) (.string t417)) (fun _ hk => hk.2) (.slice Ao67 t418.length co67)) (fun _ h_ => h_.1)); have y1_ := Aside0.mk (Kd.R_mono (Kd.R_far (p := ⟨zI, 4, none⟩) (Kd.R_far (p := ⟨zI, 3, none⟩) (Kd.R_far (p := ⟨zI, 2, none⟩) (Kd.R_far (p := ⟨zI, 1, none⟩) (Kd.R_far (p := ⟨zI, 0, none⟩) (Kd.R_types zK.out zS.out (by decide)) (fun _ hk => hk.2) (.int .i64 t412)) (fun _ hk => hk.2) (.slice Ao66 t413.length co66)) (fun _ hk => hk.2) (.bool t416)) (fun _ hk => hk.2) (.string t417)) (fun _ hk => hk.2) (.slice Ao67 t418.length co67)) (fun _ h_ => h_.1)); have y4_ := Aside0.mk (Kd.R_mono (Kd.R_far (p := ⟨zI, 4, none⟩) (Kd.R_far (p := ⟨zI, 3, none⟩) (Kd.R_far (p := ⟨zI, 2, none⟩) (Kd.R_far (p := ⟨zI, 1, none⟩) (Kd.R_far (p := ⟨zI, 0, none⟩) (Kd.R_types zab.out zS.out (by decide)) (fun _ hk => hk.2) (.int .i64 t412)) (fun _ hk => hk.2) (.slice Ao66 t413.length co66)) (fun _ hk => hk.2) (.bool t416)) (fun _ hk => hk.2) (.string t417)) (fun _ hk => hk.2) (.slice Ao67 t418.length co67)) (fun _ h_ => h_.1)); have y5_ := Aside0.mk (Kd.R_mono (Kd.R_far (p := ⟨zI, 4, none⟩) (Kd.R_far (p := ⟨zI, 3, none⟩) (Kd.R_far (p := ⟨zI, 2, none⟩) (Kd.R_far (p := ⟨zI, 1, none⟩) (Kd.R_far (p := ⟨zI, 0, none⟩) (Kd.R_types zbb.out zS.out (by decide)) (fun _ hk => hk.2) (.int .i64 t412)) (fun _ hk => hk.2) (.slice Ao66 t413.length co66)) (fun _ hk => hk.2) (.bool t416)) (fun _ hk => hk.2) (.string t417)) (fun _ hk => hk.2) (.slice Ao67 t418.length co67)) (fun _ h_ => h_.1)); refine zy (some 56) rfl rfl Tryd.func30 (by kernel_rfl) rfl #[.agg #[.int .i64 t412, .slice Ao66 t413.length co66, .bool t416, .string t417, .slice Ao67 t418.length co67], .agg #[.int .i64 t374, .slice Ao19 t375.length co19, .bool t378, .string t379, .slice Ao20 t380.length co20]] rfl (by (try simp only [List.map_toArray, List.map_cons, List.map_nil]); first | done | rfl) ?_; (with_reducible refine (laws_eqLine.calls kj12 t412 _ _ t413 t416 t417 _ _ t418 t374 _ _ t375 t378 t379 _ _ t380 true _ ?side1 ?side2 ?side3 ?side4 ?side5 ?side6 ?side7 ?side8 A52.out).mono ?_); (case side1 => refine (Kd.R_reads' (e := 124) (base := w.heap.size) (ok := fun k_ => ((True ∧ some k_ ≠ (.slice Ao19 t375.length co19 : Value).ownBlock) ∧ some k_ ≠ (.slice Ao27 t388.length co27 : Value).ownBlock)) (n := t413.length) (c := co66) ?_).2.2; exact (RL y4_.out)); (case side2 => exact (Kd.R_reads' zab.out).2.1); (case side3 => refine (Kd.R_reads' (e := 2) (base := w.heap.size) (ok := fun k_ => ((True ∧ some k_ ≠ (.slice Ao20 t380.length co20 : Value).ownBlock) ∧ some k_ ≠ (.slice Ao28 t393.length co28 : Value).ownBlock)) (n := t418.length) (c := co67) ?_).2.2; exact (RL y5_.out)); (case side4 => exact (Kd.R_reads' zbb.out).2.1); (case side5 => refine (Kd.R_reads' (e := 124) (base := w.heap.size) (ok := fun k_ => (some k_ ≠ (.slice Ao27 t388.length co27 : Value).ownBlock ∧ some k_ ≠ (.slice Ao66 t413.length co66 : Value).ownBlock)) (n := t375.length) (c := co19) ?_).2.2; exact (RL y0_.out)); (case side6 => exact (Kd.R_reads' zJ.out).2.1); (case side7 => refine (Kd.R_reads' (e := 2) (base := w.heap.size) (ok := fun k_ => (some k_ ≠ (.slice Ao28 t393.length co28 : Value).ownBlock ∧ some k_ ≠ (.slice Ao67 t418.length co67 : Value).ownBlock)) (n := t380.length) (c := co20) ?_).2.2; exact (RL y1_.out)); (case side8 => exact (Kd.R_reads' zK.out).2.1); rintro e w69 ⟨rfl, hb⟩; refine ⟨_, rfl, ?_⟩; have n0_ := Aside0.mk (Kd.R_below (RL y0_.out) hb); have n1_ := Aside0.mk (Kd.R_below (RL y1_.out) hb); have n2_ := Aside0.mk (Kd.R_below (RL ((Kd.R_mono (Kd.R_far (p := ⟨zI, 4, none⟩) (Kd.R_far (p := ⟨zI, 3, none⟩) (Kd.R_far (p := ⟨zI, 2, none⟩) (Kd.R_far (p := ⟨zI, 1, none⟩) (Kd.R_far (p := ⟨zI, 0, none⟩) (Kd.R_types zF.out zS.out (by decide)) (fun _ hk => hk.2) (.int .i64 t412)) (fun _ hk => hk.2) (.slice Ao66 t413.length co66)) (fun _ hk => hk.2) (.bool t416)) (fun _ hk => hk.2) (.string t417)) (fun _ hk => hk.2) (.slice Ao67 t418.length co67)) (fun _ h_ => h_.1)))) hb); have n3_ := Aside0.mk (Kd.R_below (RL ((Kd.R_mono (Kd.R_far (p := ⟨zI, 4, none⟩) (Kd.R_far (p := ⟨zI, 3, none⟩) (Kd.R_far (p := ⟨zI, 2, none⟩) (Kd.R_far (p := ⟨zI, 1, none⟩) (Kd.R_far (p := ⟨zI, 0, none⟩) (Kd.R_types zG.out zS.out (by decide)) (fun _ hk => hk.2) (.int .i64 t412)) (fun _ hk => hk.2) (.slice Ao66 t413.length co66)) (fun _ hk => hk.2) (.bool t416)) (fun _ hk => hk.2) (.string t417)) (fun _ hk => hk.2) (.slice Ao67 t418.length co67)) (fun _ h_ => h_.1)))) hb); have n4_ := Aside0.mk (Kd.R_below (RL ((Kd.R_mono (Kd.R_far (p := ⟨zI, 4, none⟩) (Kd.R_far (p := ⟨zI, 3, none⟩) (Kd.R_far (p := ⟨zI, 2, none⟩) (Kd.R_far (p := ⟨zI, 1, none⟩) (Kd.R_far (p := ⟨zI, 0, none⟩) (Kd.R_types zV.out zS.out (by decide)) (fun _ hk => hk.2) (.int .i64 t412)) (fun _ hk => hk.2) (.slice Ao66 t413.length co66)) (fun _ hk => hk.2) (.bool t416)) (fun _ hk => hk.2) (.string t417)) (fun _ hk => hk.2) (.slice Ao67 t418.length co67)) (fun _ h_ => h_.1)))) hb); have n5_ := Aside0.mk (Kd.R_below (RL y4_.out) hb); have n6_ := Aside0.mk (Kd.R_below (RL y5_.out) hb); have n7_ := Aside0.mk (zp (g := zH) (o := .cells #[.int .i64 t374, .slice Ao19 t375.length co19, .bool t378, .string t379, .slice Ao20 t380.length co20] 66 (0, 0)) (by (with_reducible repeat (first | refine zf ?_ _ | refine zj ?_ | refine ze ?_ _)); refine zq ?_ zW.out _; (with_reducible repeat (first | refine zf ?_ _ | refine zj ?_ | refine ze ?_ _)); refine zq ?_ zW.out _; (with_reducible repeat (first | refine zf ?_ _ | refine zj ?_ | refine ze ?_ _)); refine zq ?_ zW.out _; (with_reducible repeat (first | refine zf ?_ _ | refine zj ?_ | refine ze ?_ _)); refine zq ?_ zW.out _; (with_reducible repeat (first | refine zf ?_ _ | refine zj ?_ | refine ze ?_ _)); refine zq ?_ zW.out _; (with_reducible repeat (first | refine zf ?_ _ | refine zj ?_ | refine ze ?_ _)); exact zD.out) hb); have n8_ := Aside0.mk (zp (g := zE) (o := .cells #[.int .i64 t387, .slice Ao27 t388.length co27, .bool t391, .string t392, .slice Ao28 t393.length co28] 66 (0, 0)) (by (with_reducible repeat (first | refine zf ?_ _ | refine zj ?_ | refine ze ?_ _)); refine zq ?_ zX.out _; (with_reducible repeat (first | refine zf ?_ _ | refine zj ?_ | refine ze ?_ _)); refine zq ?_ zX.out _; (with_reducible repeat (first | refine zf ?_ _ | refine zj ?_ | refine ze ?_ _)); refine zq ?_ zX.out _; (with_reducible repeat (first | refine zf ?_ _ | refine zj ?_ | refine ze ?_ _)); refine zq ?_ zX.out _; (with_reducible repeat (first | refine zf ?_ _ | refine zj ?_ | refine ze ?_ _)); refine zq ?_ zX.out _; (with_reducible repeat (first | refine zf ?_ _ | refine zj ?_ | refine ze ?_ _)); exact zC.out) hb); have n9_ := Aside0.mk (zp (g := zI) (o := .cells #[.int .i64 t412, .slice Ao66 t413.length co66, .bool t416, .string t417, .slice Ao67 t418.length co67] 66 (0, 0)) (bfin (by (repeat (first | (with_reducible first | refine zf ?_ _ | refine zj ?_ | refine ze ?_ _) | apply zA)); exact zS.out) (by rfl)) hb); have n10_ := Aside0.mk (zm (by repeat (first | (with_reducible first | exact HB.out | apply zh | apply zd | apply zi | refine zl ?_ zU.out | refine zl ?_ zcb.out | refine zl ?_ zgb.out) | exact HB.out)) hb); clear zJ; clear zK; clear zF; clear zG; clear zV; clear zab; clear zbb; clear zD; clear zC; clear zS; clear HB; have zJ := n0_; have zK := n1_; have zF := n2_; have zG := n3_; have zV := n4_; have zab := n5_; have zbb := n6_; have zD := n7_; have zC := n8_; have zS := n9_; have HB := n10_; clear n0_ n1_ n2_ n3_ n4_ n5_ n6_ n7_ n8_ n9_ n10_; (try clear hb); (try clear hb2); (try clear hk); (try clear hi); (try clear y0_ y1_ y4_ y5_)))
          go_ret
          exact ⟨by first | rfl | (simp [*] <;> rfl), by repeat (first | (with_reducible first | exact HB.out | apply zh | apply zd | apply zi | refine zl ?_ zU.out | refine zl ?_ zcb.out | refine zl ?_ zgb.out) | exact HB.out)⟩
         ·replace c53 := Bool.eq_false_iff.mpr c53
          subst c53
          rw [if_neg (show ¬ (false = true) by decide)] at H
          obtain rfl := Option.some.inj H
          have zTf := zY.out
          have zUf := zP.out
          have zle : wc.cell? ⟨zE, 0, none⟩ = some (.int .i64 t387) := (zc zC.out 0).trans rfl
          have zme : wc.cell? ⟨zE, 1, none⟩ = some (.slice Ao27 t388.length co27) := (zc zC.out 1).trans rfl
          have zne : wc.cell? ⟨zE, 2, none⟩ = some (.bool t391) := (zc zC.out 2).trans rfl
          have zoe : wc.cell? ⟨zE, 3, none⟩ = some (.string t392) := (zc zC.out 3).trans rfl
          have zpe : wc.cell? ⟨zE, 4, none⟩ = some (.slice Ao28 t393.length co28) := (zc zC.out 4).trans rfl
          have zqe := zb zC.out 0
          have zre := zb zC.out 1
          have zse := zb zC.out 2
          have zte := zb zC.out 3
          have zue := zb zC.out 4
          go_wp2_with (first | ((with_reducible refine zo (f := 33) rfl ?_); refine zy (some 42) rfl rfl Tryd.func33 (by kernel_rfl) rfl #[.agg #[.int .i64 t387, .slice Ao27 t388.length co27, .bool t391, .string t392, .slice Ao28 t393.length co28], .int .i64 1] rfl (by (try simp only [List.map_toArray, List.map_cons, List.map_nil]); first | done | rfl) ?_; (with_reducible refine (laws_markLine.calls kj12 t387 (fun k_ => some k_ = (.slice Ao27 t388.length co27 : Value).ownBlock) (.slice Ao27 t388.length co27) t388 t391 t392 (fun k_ => some k_ = (.slice Ao28 t393.length co28 : Value).ownBlock) (.slice Ao28 t393.length co28) t393 1 t405 t406 t407 w _ ?side1 ?side2 ?side3 A41.out).mono ?_); (case side1 => exact bl HB.out); (case side2 => exact Kd.R_tight rfl zF.out); (case side3 => exact Kd.R_tight rfl zG.out); rintro e w72 ⟨rfl, hy0, hy1, hb, hkp⟩; refine ⟨_, rfl, ?_⟩; have n0_ := Aside0.mk (Kd.R_mono (ok' := fun k_ => some k_ ≠ (.slice Ao27 t388.length co27 : Value).ownBlock) (Kd.R_keptB ((Kd.R_apart' zJ.out (Kd.R_typed zG.out) (by decide))) hkp (fun k_ hk_ hs_ => Or.elim hs_ (fun e_ => (hk_.1) e_) (fun e_ => (hk_.2) e_))) (fun k_ hk_ => hk_.1.1)); have n1_ := Aside0.mk (Kd.R_mono (ok' := fun k_ => some k_ ≠ (.slice Ao28 t393.length co28 : Value).ownBlock) (Kd.R_keptB ((Kd.R_apart' zK.out (Kd.R_typed zF.out) (by decide))) hkp (fun k_ hk_ hs_ => Or.elim hs_ (fun e_ => (hk_.2) e_) (fun e_ => (hk_.1) e_))) (fun k_ hk_ => hk_.1.1)); have n2_ := Aside0.mk (Kd.R_reok rfl hy0 (fun k_ e_ => zF.out.1 k_ e_)); have n3_ := Aside0.mk (Kd.R_reok rfl hy1 (fun k_ e_ => zG.out.1 k_ e_)); have n4_ := Aside0.mk (blk_kept (BL zD.out) hkp (fun hs_ => Or.elim hs_ (fun e_ => (fun e_ => (Kd.R_ne zF.out zD.out (by decide)) e_) e_) (fun e_ => (fun e_ => (Kd.R_ne zG.out zD.out (by decide)) e_) e_))); have n5_ := Aside0.mk (blk_kept (BL zC.out) hkp (fun hs_ => Or.elim hs_ (fun e_ => (fun e_ => (Kd.R_ne zF.out zC.out (by decide)) e_) e_) (fun e_ => (fun e_ => (Kd.R_ne zG.out zC.out (by decide)) e_) e_))); have n6_ := Aside0.mk (hb); clear zJ; clear zK; clear zF; clear zG; clear zD; clear zC; clear HB; have zJ := n0_; have zK := n1_; have zF := n2_; have zG := n3_; have zD := n4_; have zC := n5_; have HB := n6_; clear n0_ n1_ n2_ n3_ n4_ n5_ n6_; (try clear hb); (try clear hkp); (try clear hy0); (try clear hy1); have zve : w72.cell? ⟨zE, 0, none⟩ = some (.int .i64 t387) := (zc zC.out 0).trans rfl; have zwe : w72.cell? ⟨zE, 1, none⟩ = some (.slice Ao27 t388.length co27) := (zc zC.out 1).trans rfl; have zxe : w72.cell? ⟨zE, 2, none⟩ = some (.bool t391) := (zc zC.out 2).trans rfl; have zye : w72.cell? ⟨zE, 3, none⟩ = some (.string t392) := (zc zC.out 3).trans rfl; have zze : w72.cell? ⟨zE, 4, none⟩ = some (.slice Ao28 t393.length co28) := (zc zC.out 4).trans rfl; have zAe := zb zC.out 0; have zBe := zb zC.out 1; have zCe := zb zC.out 2; have zDe := zb zC.out 3; have zEe := zb zC.out 4) | ((with_reducible refine zo (f := 34) rfl ?_); refine zy (some 45) rfl rfl Tryd.func34 (by kernel_rfl) rfl #[.agg #[.int .i64 t387, .slice Ao27 t406.length co27, .bool t391, .string t392, .slice Ao28 t407.length co28], .int .i64 1] rfl (by (try simp only [List.map_toArray, List.map_cons, List.map_nil]); first | done | (rw [show t406.length = t388.length from (Kd.R_reads' zF.out).1.symm, show t407.length = t393.length from (Kd.R_reads' zG.out).1.symm] <;> rfl) | rfl | (simp only [List.length_drop, List.length_take]; rfl)) ?_; (with_reducible refine (laws_heldLine.calls kj12 t387 _ _ t406 t391 t392 _ _ t407 1 t408 _ ?side1 ?side2 ?side3 ?side4 A42.out).mono ?_); (case side1 => repeat (first | exact (Kd.R_reads' zF.out).2.2 | (with_reducible refine Kd.C_alloc ?_ _) | (with_reducible refine Kd.C_drewN ?_ _) | (with_reducible refine Kd.C_drew ?_))); (case side2 => rw [show t406.length = t388.length from (Kd.R_reads' zF.out).1.symm]; exact (Kd.R_reads' zF.out).2.1); (case side3 => repeat (first | exact (Kd.R_reads' zG.out).2.2 | (with_reducible refine Kd.C_alloc ?_ _) | (with_reducible refine Kd.C_drewN ?_ _) | (with_reducible refine Kd.C_drew ?_))); (case side4 => rw [show t407.length = t393.length from (Kd.R_reads' zG.out).1.symm]; exact (Kd.R_reads' zG.out).2.1); rintro e w74 ⟨rfl, hb⟩; refine ⟨_, rfl, ?_⟩; have n0_ := Aside0.mk (Kd.R_below (RL zJ.out) hb); have n1_ := Aside0.mk (Kd.R_below (RL zK.out) hb); have n2_ := Aside0.mk (Kd.R_below (RL zF.out) hb); have n3_ := Aside0.mk (Kd.R_below (RL zG.out) hb); have n4_ := Aside0.mk (zp (g := zH) (o := .cells #[.int .i64 t374, .slice Ao19 t375.length co19, .bool t378, .string t379, .slice Ao20 t380.length co20] 66 (0, 0)) (BL zD.out) hb); have n5_ := Aside0.mk (zp (g := zE) (o := .cells #[.int .i64 t387, .slice Ao27 t388.length co27, .bool t391, .string t392, .slice Ao28 t393.length co28] 66 (0, 0)) (BL zC.out) hb); have n6_ := Aside0.mk (zm (by exact bl HB.out) hb); clear zJ; clear zK; clear zF; clear zG; clear zD; clear zC; clear HB; have zJ := n0_; have zK := n1_; have zF := n2_; have zG := n3_; have zD := n4_; have zC := n5_; have HB := n6_; clear n0_ n1_ n2_ n3_ n4_ n5_ n6_; (try clear hb); (try clear hb2); (try clear hk); (try clear hi)) | ((with_reducible refine zo (f := 28) rfl ?_); refine zy (some 52) rfl rfl Tryd.func28 (by kernel_rfl) rfl #[.slice A0 l0.length c0] rfl (by (try simp only [List.map_toArray, List.map_cons, List.map_nil]); first | done | rfl) ?_; (with_reducible refine (laws_toByteS.calls kj12 _ _ l0 t409 _ ?side1 ?side2 A50.out).mono ?_); (case side1 => repeat (first | exact (Kd.C_below HR0.out HB.out) | (with_reducible refine Kd.C_alloc ?_ _) | (with_reducible refine Kd.C_drewN ?_ _) | (with_reducible refine Kd.C_drew ?_))); (case side2 => exact HC0.out); rintro e w75 ⟨v410, rfl, zT, hb⟩; refine ⟨_, rfl, ?_⟩; have n0_ := Aside0.mk (Kd.R_below (RL zJ.out) hb); have n1_ := Aside0.mk (Kd.R_below (RL zK.out) hb); have n2_ := Aside0.mk (Kd.R_below (RL zF.out) hb); have n3_ := Aside0.mk (Kd.R_below (RL zG.out) hb); have n4_ := Aside0.mk (Kd.R_lower zT (zn (by exact bl HB.out))); have n5_ := Aside0.mk (zp (g := zH) (o := .cells #[.int .i64 t374, .slice Ao19 t375.length co19, .bool t378, .string t379, .slice Ao20 t380.length co20] 66 (0, 0)) (BL zD.out) hb); have n6_ := Aside0.mk (zp (g := zE) (o := .cells #[.int .i64 t387, .slice Ao27 t388.length co27, .bool t391, .string t392, .slice Ao28 t393.length co28] 66 (0, 0)) (BL zC.out) hb); have n7_ := Aside0.mk (zm (by exact bl HB.out) hb); clear zJ; clear zK; clear zF; clear zG; clear zD; clear zC; clear HB; have zJ := n0_; have zK := n1_; have zF := n2_; have zG := n3_; have zV := n4_; have zD := n5_; have zC := n6_; have HB := n7_; clear n0_ n1_ n2_ n3_ n4_ n5_ n6_ n7_; (try clear hb); (try clear hb2); (try clear hk); (try clear hi); (try clear zT); obtain ⟨Ao76, co76, eo76⟩ := Kd.R_slice zV.out; subst eo76) | ((with_reducible refine zo (f := 29) rfl ?_); refine zy (some 53) rfl rfl Tryd.func29 (by kernel_rfl) rfl #[.slice Ao76 t409.length co76] rfl (by (try simp only [List.map_toArray, List.map_cons, List.map_nil]); first | done | rfl) ?_; (with_reducible refine (impl_ParseLine.calls kj12 _ _ t409 t412 t413 t416 t417 t418 _ ?side1 ?side2 A51.out ?globMAX_).mono ?_); (case globMAX_ => exact Go.Proofs.YtfiojiokmkiflaaDoorH.GFMAX.below HGMAX_.out (by repeat (first | (with_reducible first | exact HB.out | exact Below.refl _ _ | apply zh | apply zd | apply zi | refine zl ?_ (Aside0.out (by assumption))) | exact HB.out))); (case side1 => repeat (first | exact (Kd.R_reads' zV.out).2.2 | (with_reducible refine Kd.C_alloc ?_ _) | (with_reducible refine Kd.C_drewN ?_ _) | (with_reducible refine Kd.C_drew ?_))); (case side2 => exact (Kd.R_reads' zV.out).2.1); rintro e w77 ⟨v414, v419, rfl, zT, zZ, hb⟩; refine ⟨_, rfl, ?_⟩; have n0_ := Aside0.mk (Kd.R_elder' (RL zJ.out) (Kd.R_base zT) hb); have n1_ := Aside0.mk (Kd.R_elder' (RL zK.out) (Kd.R_base zZ) hb); have n2_ := Aside0.mk (Kd.R_elder' (RL zF.out) (Kd.R_base zT) hb); have n3_ := Aside0.mk (Kd.R_elder' (RL zG.out) (Kd.R_base zZ) hb); have n4_ := Aside0.mk (Kd.R_below (RL zV.out) hb); have n5_ := Aside0.mk (Kd.R_lower (Kd.R_new' (Kd.R_new' zT (Kd.R_lt (RL zJ.out))) (Kd.R_lt (RL zF.out))) (zn (by exact bl HB.out))); have n6_ := Aside0.mk (Kd.R_lower (Kd.R_new' (Kd.R_new' zZ (Kd.R_lt (RL zK.out))) (Kd.R_lt (RL zG.out))) (zn (by exact bl HB.out))); have n7_ := Aside0.mk (zp (g := zH) (o := .cells #[.int .i64 t374, .slice Ao19 t375.length co19, .bool t378, .string t379, .slice Ao20 t380.length co20] 66 (0, 0)) (BL zD.out) hb); have n8_ := Aside0.mk (zp (g := zE) (o := .cells #[.int .i64 t387, .slice Ao27 t388.length co27, .bool t391, .string t392, .slice Ao28 t393.length co28] 66 (0, 0)) (BL zC.out) hb); have n9_ := Aside0.mk (zm (by exact bl HB.out) hb); clear zJ; clear zK; clear zF; clear zG; clear zV; clear zD; clear zC; clear HB; have zJ := n0_; have zK := n1_; have zF := n2_; have zG := n3_; have zV := n4_; have zab := n5_; have zbb := n6_; have zD := n7_; have zC := n8_; have HB := n9_; clear n0_ n1_ n2_ n3_ n4_ n5_ n6_ n7_ n8_ n9_; (try clear hb); (try clear hb2); (try clear hk); (try clear hi); (try clear zT); (try clear zZ)) | ((with_reducible refine zu (N := 9) rfl ?_); refine zz ?hg (N := 9) ?hd (cs := #[.int .i64 0, .slice none 0 0, .bool false, .string (⟨#[]⟩ : ByteArray), .slice none 0 0]) (t := 66) ?hr ?_; (case hd => rfl); (case hg => rfl); (case hr => first | (go_simp; done) | (go_simp; rfl)); intro zI hg w78 hbox hb; have n0_ := Aside0.mk (Kd.R_below (RL zJ.out) hb); have n1_ := Aside0.mk (Kd.R_below (RL zK.out) hb); have n2_ := Aside0.mk (Kd.R_below (RL zF.out) hb); have n3_ := Aside0.mk (Kd.R_below (RL zG.out) hb); have n4_ := Aside0.mk (Kd.R_below (RL zV.out) hb); have n5_ := Aside0.mk (Kd.R_below (RL zab.out) hb); have n6_ := Aside0.mk (Kd.R_below (RL zbb.out) hb); have n7_ := Aside0.mk (zp (g := zH) (o := .cells #[.int .i64 t374, .slice Ao19 t375.length co19, .bool t378, .string t379, .slice Ao20 t380.length co20] 66 (0, 0)) (BL zD.out) hb); have n8_ := Aside0.mk (zp (g := zE) (o := .cells #[.int .i64 t387, .slice Ao27 t388.length co27, .bool t391, .string t392, .slice Ao28 t393.length co28] 66 (0, 0)) (BL zC.out) hb); have n9_ := Aside0.mk (zm (by exact bl HB.out) hb); have n10_ := Aside0.mk (hbox); have n11_ := Aside0.mk ((by rw [hg]; exact (zn (by exact bl HB.out)) : w.heap.size ≤ zI)); have n12_ := Aside0.mk ((by rw [hg]; exact (zn (by exact bl HB.out)) : w.heap.size ≤ zI)); have n13_ := Aside0.mk ((by rw [hg]; exact Nat.ne_of_lt (zB (g := zH) (o := .cells #[.int .i64 t374, .slice Ao19 t375.length co19, .bool t378, .string t379, .slice Ao20 t380.length co20] 66 (0, 0)) (BL zD.out)) : zH ≠ zI)); have n14_ := Aside0.mk ((by rw [hg]; exact Nat.ne_of_gt (zB (g := zH) (o := .cells #[.int .i64 t374, .slice Ao19 t375.length co19, .bool t378, .string t379, .slice Ao20 t380.length co20] 66 (0, 0)) (BL zD.out)) : zI ≠ zH)); have n15_ := Aside0.mk ((by rw [hg]; exact Nat.ne_of_lt (zB (g := zE) (o := .cells #[.int .i64 t387, .slice Ao27 t388.length co27, .bool t391, .string t392, .slice Ao28 t393.length co28] 66 (0, 0)) (BL zC.out)) : zE ≠ zI)); have n16_ := Aside0.mk ((by rw [hg]; exact Nat.ne_of_gt (zB (g := zE) (o := .cells #[.int .i64 t387, .slice Ao27 t388.length co27, .bool t391, .string t392, .slice Ao28 t393.length co28] 66 (0, 0)) (BL zC.out)) : zI ≠ zE)); clear zJ; clear zK; clear zF; clear zG; clear zV; clear zab; clear zbb; clear zD; clear zC; clear HB; have zJ := n0_; have zK := n1_; have zF := n2_; have zG := n3_; have zV := n4_; have zab := n5_; have zbb := n6_; have zD := n7_; have zC := n8_; have HB := n9_; have zS := n10_; have GW421 := n11_; have zgb := n12_; have zW := n13_; have zeb := n14_; have zX := n15_; have zfb := n16_; clear n0_ n1_ n2_ n3_ n4_ n5_ n6_ n7_ n8_ n9_ n10_ n11_ n12_ n13_ n14_ n15_ n16_; clear hb hbox hg; have zVf := zeb.out; have zWf := zW.out; have zXf := zfb.out; have zYf := zX.out; have zFe : w78.cell? ⟨zI, 0, none⟩ = some (.int .i64 0) := (zc zS.out 0).trans rfl; have zGe : w78.cell? ⟨zI, 1, none⟩ = some (.slice none 0 0) := (zc zS.out 1).trans rfl; have zHe : w78.cell? ⟨zI, 2, none⟩ = some (.bool false) := (zc zS.out 2).trans rfl; have zIe : w78.cell? ⟨zI, 3, none⟩ = some (.string (⟨#[]⟩ : ByteArray)) := (zc zS.out 3).trans rfl; have zJe : w78.cell? ⟨zI, 4, none⟩ = some (.slice none 0 0) := (zc zS.out 4).trans rfl; have zKe := zb zS.out 0; have zLe := zb zS.out 1; have zMe := zb zS.out 2; have zNe := zb zS.out 3; have zOe := zb zS.out 4; obtain ⟨Ao82, co82, eo82⟩ := Kd.R_slice zab.out; subst eo82; obtain ⟨Ao83, co83, eo83⟩ := Kd.R_slice zbb.out; subst eo83; have zPe : w78.cell? ⟨zH, 0, none⟩ = some (.int .i64 t374) := (zc zD.out 0).trans rfl; have zQe : w78.cell? ⟨zH, 1, none⟩ = some (.slice Ao19 t375.length co19) := (zc zD.out 1).trans rfl; have zRe : w78.cell? ⟨zH, 2, none⟩ = some (.bool t378) := (zc zD.out 2).trans rfl; have zSe : w78.cell? ⟨zH, 3, none⟩ = some (.string t379) := (zc zD.out 3).trans rfl; have zTe : w78.cell? ⟨zH, 4, none⟩ = some (.slice Ao20 t380.length co20) := (zc zD.out 4).trans rfl; have zUe := zb zD.out 0; have zVe := zb zD.out 1; have zWe := zb zD.out 2; have zXe := zb zD.out 3; have zYe := zb zD.out 4) | ((with_reducible refine zo (f := 30) rfl ?_); have y0_ := Aside0.mk (Kd.R_mono (Kd.R_far (p := ⟨zI, 4, none⟩) (Kd.R_far (p := ⟨zI, 3, none⟩) (Kd.R_far (p := ⟨zI, 2, none⟩) (Kd.R_far (p := ⟨zI, 1, none⟩) (Kd.R_far (p := ⟨zI, 0, none⟩) (Kd.R_types zJ.out zS.out (by decide)) (fun _ hk => hk.2) (.int .i64 t412)) (fun _ hk => hk.2) (.slice Ao82 t413.length co82)) (fun _ hk => hk.2) (.bool t416)) (fun _ hk => hk.2) (.string t417)) (fun _ hk => hk.2) (.slice Ao83 t418.length co83)) (fun _ h_ => h_.1)); have y1_ := Aside0.mk (Kd.R_mono (Kd.R_far (p := ⟨zI, 4, none⟩) (Kd.R_far (p := ⟨zI, 3, none⟩) (Kd.R_far (p := ⟨zI, 2, none⟩) (Kd.R_far (p := ⟨zI, 1, none⟩) (Kd.R_far (p := ⟨zI, 0, none⟩) (Kd.R_types zK.out zS.out (by decide)) (fun _ hk => hk.2) (.int .i64 t412)) (fun _ hk => hk.2) (.slice Ao82 t413.length co82)) (fun _ hk => hk.2) (.bool t416)) (fun _ hk => hk.2) (.string t417)) (fun _ hk => hk.2) (.slice Ao83 t418.length co83)) (fun _ h_ => h_.1)); have y4_ := Aside0.mk (Kd.R_mono (Kd.R_far (p := ⟨zI, 4, none⟩) (Kd.R_far (p := ⟨zI, 3, none⟩) (Kd.R_far (p := ⟨zI, 2, none⟩) (Kd.R_far (p := ⟨zI, 1, none⟩) (Kd.R_far (p := ⟨zI, 0, none⟩) (Kd.R_types zab.out zS.out (by decide)) (fun _ hk => hk.2) (.int .i64 t412)) (fun _ hk => hk.2) (.slice Ao82 t413.length co82)) (fun _ hk => hk.2) (.bool t416)) (fun _ hk => hk.2) (.string t417)) (fun _ hk => hk.2) (.slice Ao83 t418.length co83)) (fun _ h_ => h_.1)); have y5_ := Aside0.mk (Kd.R_mono (Kd.R_far (p := ⟨zI, 4, none⟩) (Kd.R_far (p := ⟨zI, 3, none⟩) (Kd.R_far (p := ⟨zI, 2, none⟩) (Kd.R_far (p := ⟨zI, 1, none⟩) (Kd.R_far (p := ⟨zI, 0, none⟩) (Kd.R_types zbb.out zS.out (by decide)) (fun _ hk => hk.2) (.int .i64 t412)) (fun _ hk => hk.2) (.slice Ao82 t413.length co82)) (fun _ hk => hk.2) (.bool t416)) (fun _ hk => hk.2) (.string t417)) (fun _ hk => hk.2) (.slice Ao83 t418.length co83)) (fun _ h_ => h_.1)); refine zy (some 56) rfl rfl Tryd.func30 (by kernel_rfl) rfl #[.agg #[.int .i64 t412, .slice Ao82 t413.length co82, .bool t416, .string t417, .slice Ao83 t418.length co83], .agg #[.int .i64 t374, .slice Ao19 t375.length co19, .bool t378, .string t379, .slice Ao20 t380.length co20]] rfl (by (try simp only [List.map_toArray, List.map_cons, List.map_nil]); first | done | rfl) ?_; (with_reducible refine (laws_eqLine.calls kj12 t412 _ _ t413 t416 t417 _ _ t418 t374 _ _ t375 t378 t379 _ _ t380 false _ ?side1 ?side2 ?side3 ?side4 ?side5 ?side6 ?side7 ?side8 A52.out).mono ?_); (case side1 => refine (Kd.R_reads' (e := 124) (base := w.heap.size) (ok := fun k_ => ((True ∧ some k_ ≠ (.slice Ao19 t375.length co19 : Value).ownBlock) ∧ some k_ ≠ (.slice Ao27 t388.length co27 : Value).ownBlock)) (n := t413.length) (c := co82) ?_).2.2; exact (RL y4_.out)); (case side2 => exact (Kd.R_reads' zab.out).2.1); (case side3 => refine (Kd.R_reads' (e := 2) (base := w.heap.size) (ok := fun k_ => ((True ∧ some k_ ≠ (.slice Ao20 t380.length co20 : Value).ownBlock) ∧ some k_ ≠ (.slice Ao28 t393.length co28 : Value).ownBlock)) (n := t418.length) (c := co83) ?_).2.2; exact (RL y5_.out)); (case side4 => exact (Kd.R_reads' zbb.out).2.1); (case side5 => refine (Kd.R_reads' (e := 124) (base := w.heap.size) (ok := fun k_ => (some k_ ≠ (.slice Ao27 t388.length co27 : Value).ownBlock ∧ some k_ ≠ (.slice Ao82 t413.length co82 : Value).ownBlock)) (n := t375.length) (c := co19) ?_).2.2; exact (RL y0_.out)); (case side6 => exact (Kd.R_reads' zJ.out).2.1); (case side7 => refine (Kd.R_reads' (e := 2) (base := w.heap.size) (ok := fun k_ => (some k_ ≠ (.slice Ao28 t393.length co28 : Value).ownBlock ∧ some k_ ≠ (.slice Ao83 t418.length co83 : Value).ownBlock)) (n := t380.length) (c := co20) ?_).2.2; exact (RL y1_.out)); (case side8 => exact (Kd.R_reads' zK.out).2.1); rintro e w85 ⟨rfl, hb⟩; refine ⟨_, rfl, ?_⟩; have n0_ := Aside0.mk (Kd.R_below (RL y0_.out) hb); have n1_ := Aside0.mk (Kd.R_below (RL y1_.out) hb); have n2_ := Aside0.mk (Kd.R_below (RL ((Kd.R_mono (Kd.R_far (p := ⟨zI, 4, none⟩) (Kd.R_far (p := ⟨zI, 3, none⟩) (Kd.R_far (p := ⟨zI, 2, none⟩) (Kd.R_far (p := ⟨zI, 1, none⟩) (Kd.R_far (p := ⟨zI, 0, none⟩) (Kd.R_types zF.out zS.out (by decide)) (fun _ hk => hk.2) (.int .i64 t412)) (fun _ hk => hk.2) (.slice Ao82 t413.length co82)) (fun _ hk => hk.2) (.bool t416)) (fun _ hk => hk.2) (.string t417)) (fun _ hk => hk.2) (.slice Ao83 t418.length co83)) (fun _ h_ => h_.1)))) hb); have n3_ := Aside0.mk (Kd.R_below (RL ((Kd.R_mono (Kd.R_far (p := ⟨zI, 4, none⟩) (Kd.R_far (p := ⟨zI, 3, none⟩) (Kd.R_far (p := ⟨zI, 2, none⟩) (Kd.R_far (p := ⟨zI, 1, none⟩) (Kd.R_far (p := ⟨zI, 0, none⟩) (Kd.R_types zG.out zS.out (by decide)) (fun _ hk => hk.2) (.int .i64 t412)) (fun _ hk => hk.2) (.slice Ao82 t413.length co82)) (fun _ hk => hk.2) (.bool t416)) (fun _ hk => hk.2) (.string t417)) (fun _ hk => hk.2) (.slice Ao83 t418.length co83)) (fun _ h_ => h_.1)))) hb); have n4_ := Aside0.mk (Kd.R_below (RL ((Kd.R_mono (Kd.R_far (p := ⟨zI, 4, none⟩) (Kd.R_far (p := ⟨zI, 3, none⟩) (Kd.R_far (p := ⟨zI, 2, none⟩) (Kd.R_far (p := ⟨zI, 1, none⟩) (Kd.R_far (p := ⟨zI, 0, none⟩) (Kd.R_types zV.out zS.out (by decide)) (fun _ hk => hk.2) (.int .i64 t412)) (fun _ hk => hk.2) (.slice Ao82 t413.length co82)) (fun _ hk => hk.2) (.bool t416)) (fun _ hk => hk.2) (.string t417)) (fun _ hk => hk.2) (.slice Ao83 t418.length co83)) (fun _ h_ => h_.1)))) hb); have n5_ := Aside0.mk (Kd.R_below (RL y4_.out) hb); have n6_ := Aside0.mk (Kd.R_below (RL y5_.out) hb); have n7_ := Aside0.mk (zp (g := zH) (o := .cells #[.int .i64 t374, .slice Ao19 t375.length co19, .bool t378, .string t379, .slice Ao20 t380.length co20] 66 (0, 0)) (by (with_reducible repeat (first | refine zf ?_ _ | refine zj ?_ | refine ze ?_ _)); refine zq ?_ zW.out _; (with_reducible repeat (first | refine zf ?_ _ | refine zj ?_ | refine ze ?_ _)); refine zq ?_ zW.out _; (with_reducible repeat (first | refine zf ?_ _ | refine zj ?_ | refine ze ?_ _)); refine zq ?_ zW.out _; (with_reducible repeat (first | refine zf ?_ _ | refine zj ?_ | refine ze ?_ _)); refine zq ?_ zW.out _; (with_reducible repeat (first | refine zf ?_ _ | refine zj ?_ | refine ze ?_ _)); refine zq ?_ zW.out _; (with_reducible repeat (first | refine zf ?_ _ | refine zj ?_ | refine ze ?_ _)); exact zD.out) hb); have n8_ := Aside0.mk (zp (g := zE) (o := .cells #[.int .i64 t387, .slice Ao27 t388.length co27, .bool t391, .string t392, .slice Ao28 t393.length co28] 66 (0, 0)) (by (with_reducible repeat (first | refine zf ?_ _ | refine zj ?_ | refine ze ?_ _)); refine zq ?_ zX.out _; (with_reducible repeat (first | refine zf ?_ _ | refine zj ?_ | refine ze ?_ _)); refine zq ?_ zX.out _; (with_reducible repeat (first | refine zf ?_ _ | refine zj ?_ | refine ze ?_ _)); refine zq ?_ zX.out _; (with_reducible repeat (first | refine zf ?_ _ | refine zj ?_ | refine ze ?_ _)); refine zq ?_ zX.out _; (with_reducible repeat (first | refine zf ?_ _ | refine zj ?_ | refine ze ?_ _)); refine zq ?_ zX.out _; (with_reducible repeat (first | refine zf ?_ _ | refine zj ?_ | refine ze ?_ _)); exact zC.out) hb); have n9_ := Aside0.mk (zp (g := zI) (o := .cells #[.int .i64 t412, .slice Ao82 t413.length co82, .bool t416, .string t417, .slice Ao83 t418.length co83] 66 (0, 0)) (bfin (by (repeat (first | (with_reducible first | refine zf ?_ _ | refine zj ?_ | refine ze ?_ _) | apply zA)); exact zS.out) (by rfl)) hb); have n10_ := Aside0.mk (zm (by repeat (first | (with_reducible first | exact HB.out | apply zh | apply zd | apply zi | refine zl ?_ zU.out | refine zl ?_ zcb.out | refine zl ?_ zgb.out) | exact HB.out)) hb); clear zJ; clear zK; clear zF; clear zG; clear zV; clear zab; clear zbb; clear zD; clear zC; clear zS; clear HB; have zJ := n0_; have zK := n1_; have zF := n2_; have zG := n3_; have zV := n4_; have zab := n5_; have zbb := n6_; have zD := n7_; have zC := n8_; have zS := n9_; have HB := n10_; clear n0_ n1_ n2_ n3_ n4_ n5_ n6_ n7_ n8_ n9_ n10_; (try clear hb); (try clear hb2); (try clear hk); (try clear hi); (try clear y0_ y1_ y4_ y5_)))
          go_ret
          exact ⟨by first | rfl | (simp [*] <;> rfl), by repeat (first | (with_reducible first | exact HB.out | apply zh | apply zd | apply zi | refine zl ?_ zU.out | refine zl ?_ zcb.out | refine zl ?_ zgb.out) | exact HB.out)⟩
        ·rw [if_neg c49] at H
         have c49b0 : (t408 == t405) = false := beq_eq_false_iff_ne.mpr c49
         have c49b1 : (t408 != t405) = true := bne_iff_ne.mpr c49
         obtain rfl := Option.some.inj H
         have zZf := zY.out
         have zag := zP.out
         have zZe : wc.cell? ⟨zE, 0, none⟩ = some (.int .i64 t387) := (zc zC.out 0).trans rfl
         have zaf : wc.cell? ⟨zE, 1, none⟩ = some (.slice Ao27 t388.length co27) := (zc zC.out 1).trans rfl
         have zbf : wc.cell? ⟨zE, 2, none⟩ = some (.bool t391) := (zc zC.out 2).trans rfl
         have zcf : wc.cell? ⟨zE, 3, none⟩ = some (.string t392) := (zc zC.out 3).trans rfl
         have zdf : wc.cell? ⟨zE, 4, none⟩ = some (.slice Ao28 t393.length co28) := (zc zC.out 4).trans rfl
         have zef := zb zC.out 0
         have zff := zb zC.out 1
         have zgf := zb zC.out 2
         have zhf := zb zC.out 3
         have zif := zb zC.out 4
         go_wp2_with (first | ((with_reducible refine zo (f := 33) rfl ?_); refine zy (some 42) rfl rfl Tryd.func33 (by kernel_rfl) rfl #[.agg #[.int .i64 t387, .slice Ao27 t388.length co27, .bool t391, .string t392, .slice Ao28 t393.length co28], .int .i64 1] rfl (by (try simp only [List.map_toArray, List.map_cons, List.map_nil]); first | done | rfl) ?_; (with_reducible refine (laws_markLine.calls kj12 t387 (fun k_ => some k_ = (.slice Ao27 t388.length co27 : Value).ownBlock) (.slice Ao27 t388.length co27) t388 t391 t392 (fun k_ => some k_ = (.slice Ao28 t393.length co28 : Value).ownBlock) (.slice Ao28 t393.length co28) t393 1 t405 t406 t407 w _ ?side1 ?side2 ?side3 A41.out).mono ?_); (case side1 => exact bl HB.out); (case side2 => exact Kd.R_tight rfl zF.out); (case side3 => exact Kd.R_tight rfl zG.out); rintro e w88 ⟨rfl, hy0, hy1, hb, hkp⟩; refine ⟨_, rfl, ?_⟩; have n0_ := Aside0.mk (Kd.R_mono (ok' := fun k_ => some k_ ≠ (.slice Ao27 t388.length co27 : Value).ownBlock) (Kd.R_keptB ((Kd.R_apart' zJ.out (Kd.R_typed zG.out) (by decide))) hkp (fun k_ hk_ hs_ => Or.elim hs_ (fun e_ => (hk_.1) e_) (fun e_ => (hk_.2) e_))) (fun k_ hk_ => hk_.1.1)); have n1_ := Aside0.mk (Kd.R_mono (ok' := fun k_ => some k_ ≠ (.slice Ao28 t393.length co28 : Value).ownBlock) (Kd.R_keptB ((Kd.R_apart' zK.out (Kd.R_typed zF.out) (by decide))) hkp (fun k_ hk_ hs_ => Or.elim hs_ (fun e_ => (hk_.2) e_) (fun e_ => (hk_.1) e_))) (fun k_ hk_ => hk_.1.1)); have n2_ := Aside0.mk (Kd.R_reok rfl hy0 (fun k_ e_ => zF.out.1 k_ e_)); have n3_ := Aside0.mk (Kd.R_reok rfl hy1 (fun k_ e_ => zG.out.1 k_ e_)); have n4_ := Aside0.mk (blk_kept (BL zD.out) hkp (fun hs_ => Or.elim hs_ (fun e_ => (fun e_ => (Kd.R_ne zF.out zD.out (by decide)) e_) e_) (fun e_ => (fun e_ => (Kd.R_ne zG.out zD.out (by decide)) e_) e_))); have n5_ := Aside0.mk (blk_kept (BL zC.out) hkp (fun hs_ => Or.elim hs_ (fun e_ => (fun e_ => (Kd.R_ne zF.out zC.out (by decide)) e_) e_) (fun e_ => (fun e_ => (Kd.R_ne zG.out zC.out (by decide)) e_) e_))); have n6_ := Aside0.mk (hb); clear zJ; clear zK; clear zF; clear zG; clear zD; clear zC; clear HB; have zJ := n0_; have zK := n1_; have zF := n2_; have zG := n3_; have zD := n4_; have zC := n5_; have HB := n6_; clear n0_ n1_ n2_ n3_ n4_ n5_ n6_; (try clear hb); (try clear hkp); (try clear hy0); (try clear hy1); have zjf : w88.cell? ⟨zE, 0, none⟩ = some (.int .i64 t387) := (zc zC.out 0).trans rfl; have zkf : w88.cell? ⟨zE, 1, none⟩ = some (.slice Ao27 t388.length co27) := (zc zC.out 1).trans rfl; have zlf : w88.cell? ⟨zE, 2, none⟩ = some (.bool t391) := (zc zC.out 2).trans rfl; have zmf : w88.cell? ⟨zE, 3, none⟩ = some (.string t392) := (zc zC.out 3).trans rfl; have znf : w88.cell? ⟨zE, 4, none⟩ = some (.slice Ao28 t393.length co28) := (zc zC.out 4).trans rfl; have zof := zb zC.out 0; have zpf := zb zC.out 1; have zqf := zb zC.out 2; have zrf := zb zC.out 3; have zsf := zb zC.out 4) | ((with_reducible refine zo (f := 34) rfl ?_); refine zy (some 45) rfl rfl Tryd.func34 (by kernel_rfl) rfl #[.agg #[.int .i64 t387, .slice Ao27 t406.length co27, .bool t391, .string t392, .slice Ao28 t407.length co28], .int .i64 1] rfl (by (try simp only [List.map_toArray, List.map_cons, List.map_nil]); first | done | (rw [show t406.length = t388.length from (Kd.R_reads' zF.out).1.symm, show t407.length = t393.length from (Kd.R_reads' zG.out).1.symm] <;> rfl) | rfl | (simp only [List.length_drop, List.length_take]; rfl)) ?_; (with_reducible refine (laws_heldLine.calls kj12 t387 _ _ t406 t391 t392 _ _ t407 1 t408 _ ?side1 ?side2 ?side3 ?side4 A42.out).mono ?_); (case side1 => repeat (first | exact (Kd.R_reads' zF.out).2.2 | (with_reducible refine Kd.C_alloc ?_ _) | (with_reducible refine Kd.C_drewN ?_ _) | (with_reducible refine Kd.C_drew ?_))); (case side2 => rw [show t406.length = t388.length from (Kd.R_reads' zF.out).1.symm]; exact (Kd.R_reads' zF.out).2.1); (case side3 => repeat (first | exact (Kd.R_reads' zG.out).2.2 | (with_reducible refine Kd.C_alloc ?_ _) | (with_reducible refine Kd.C_drewN ?_ _) | (with_reducible refine Kd.C_drew ?_))); (case side4 => rw [show t407.length = t393.length from (Kd.R_reads' zG.out).1.symm]; exact (Kd.R_reads' zG.out).2.1); rintro e w90 ⟨rfl, hb⟩; refine ⟨_, rfl, ?_⟩; have n0_ := Aside0.mk (Kd.R_below (RL zJ.out) hb); have n1_ := Aside0.mk (Kd.R_below (RL zK.out) hb); have n2_ := Aside0.mk (Kd.R_below (RL zF.out) hb); have n3_ := Aside0.mk (Kd.R_below (RL zG.out) hb); have n4_ := Aside0.mk (zp (g := zH) (o := .cells #[.int .i64 t374, .slice Ao19 t375.length co19, .bool t378, .string t379, .slice Ao20 t380.length co20] 66 (0, 0)) (BL zD.out) hb); have n5_ := Aside0.mk (zp (g := zE) (o := .cells #[.int .i64 t387, .slice Ao27 t388.length co27, .bool t391, .string t392, .slice Ao28 t393.length co28] 66 (0, 0)) (BL zC.out) hb); have n6_ := Aside0.mk (zm (by exact bl HB.out) hb); clear zJ; clear zK; clear zF; clear zG; clear zD; clear zC; clear HB; have zJ := n0_; have zK := n1_; have zF := n2_; have zG := n3_; have zD := n4_; have zC := n5_; have HB := n6_; clear n0_ n1_ n2_ n3_ n4_ n5_ n6_; (try clear hb); (try clear hb2); (try clear hk); (try clear hi)))
         go_ret
         exact ⟨by first | rfl | (simp [*] <;> rfl), by repeat (first | (with_reducible first | exact HB.out | apply zh | apply zd | apply zi | refine zl ?_ zU.out | refine zl ?_ zcb.out) | exact HB.out)⟩
   ·replace c11 := Bool.eq_false_iff.mpr c11
    subst c11
    rw [if_neg (show ¬ (false = true) by decide)] at H
    obtain rfl := Option.some.inj H
    go_enter Tryd.func5, Tryd.ntmps5
    go_wp2_with (first | ((with_reducible refine zo (f := 28) rfl ?_); refine zy (some 14) rfl rfl Tryd.func28 (by kernel_rfl) rfl #[.slice A0 l0.length c0] rfl (by (try simp only [List.map_toArray, List.map_cons, List.map_nil]); first | done | rfl) ?_; (with_reducible refine (laws_toByteS.calls k _ _ l0 t371 _ ?side1 ?side2 A3.out).mono ?_); (case side1 => repeat (first | exact HR0.out | (with_reducible refine Kd.C_alloc ?_ _) | (with_reducible refine Kd.C_drewN ?_ _) | (with_reducible refine Kd.C_drew ?_))); (case side2 => exact HC0.out); rintro e w91 ⟨v372, rfl, zT, hb⟩; refine ⟨_, rfl, ?_⟩; have n0_ := Aside0.mk (Kd.R_lower zT (zn (by exact bl HB.out))); have n1_ := Aside0.mk (zm (by exact bl HB.out) hb); clear HB; have zL := n0_; have HB := n1_; clear n0_ n1_; (try clear hb); (try clear hb2); (try clear hk); (try clear hi); (try clear zT); obtain ⟨Ao92, co92, eo92⟩ := Kd.R_slice zL.out; subst eo92) | ((with_reducible refine zo (f := 27) rfl ?_); refine zy (some 15) rfl rfl Tryd.func27 (by kernel_rfl) rfl #[.slice Ao92 t371.length co92] rfl (by (try simp only [List.map_toArray, List.map_cons, List.map_nil]); first | done | rfl) ?_; (with_reducible refine (spec_ParseLine.calls k _ _ t371 t374 t375 t378 t379 t380 _ ?side1 ?side2 A4.out).mono ?_); (case side1 => repeat (first | exact (Kd.R_reads' zL.out).2.2 | (with_reducible refine Kd.C_alloc ?_ _) | (with_reducible refine Kd.C_drewN ?_ _) | (with_reducible refine Kd.C_drew ?_))); (case side2 => exact (Kd.R_reads' zL.out).2.1); rintro e w93 ⟨v376, v381, rfl, zT, zZ, hb⟩; refine ⟨_, rfl, ?_⟩; have n0_ := Aside0.mk (Kd.R_below (RL zL.out) hb); have n1_ := Aside0.mk (Kd.R_lower zT (zn (by exact bl HB.out))); have n2_ := Aside0.mk (Kd.R_lower zZ (zn (by exact bl HB.out))); have n3_ := Aside0.mk (zm (by exact bl HB.out) hb); clear zL; clear HB; have zL := n0_; have zM := n1_; have zN := n2_; have HB := n3_; clear n0_ n1_ n2_ n3_; (try clear hb); (try clear hb2); (try clear hk); (try clear hi); (try clear zT); (try clear zZ)) | ((with_reducible refine zu (N := 3) rfl ?_); refine zz ?hg (N := 3) ?hd (cs := #[.int .i64 0, .slice none 0 0, .bool false, .string (⟨#[]⟩ : ByteArray), .slice none 0 0]) (t := 66) ?hr ?_; (case hd => rfl); (case hg => rfl); (case hr => first | (go_simp; done) | (go_simp; rfl)); intro zH hg w94 hbox hb; have n0_ := Aside0.mk (Kd.R_below (RL zL.out) hb); have n1_ := Aside0.mk (Kd.R_below (RL zM.out) hb); have n2_ := Aside0.mk (Kd.R_below (RL zN.out) hb); have n3_ := Aside0.mk (zm (by exact bl HB.out) hb); have n4_ := Aside0.mk (hbox); have n5_ := Aside0.mk ((by rw [hg]; exact (zn (by exact bl HB.out)) : w.heap.size ≤ zH)); have n6_ := Aside0.mk ((by rw [hg]; exact (zn (by exact bl HB.out)) : w.heap.size ≤ zH)); clear zL; clear zM; clear zN; clear HB; have zL := n0_; have zM := n1_; have zN := n2_; have HB := n3_; have zD := n4_; have GW383 := n5_; have zU := n6_; clear n0_ n1_ n2_ n3_ n4_ n5_ n6_; clear hb hbox hg; have ztf : w94.cell? ⟨zH, 0, none⟩ = some (.int .i64 0) := (zc zD.out 0).trans rfl; have zuf : w94.cell? ⟨zH, 1, none⟩ = some (.slice none 0 0) := (zc zD.out 1).trans rfl; have zvf : w94.cell? ⟨zH, 2, none⟩ = some (.bool false) := (zc zD.out 2).trans rfl; have zwf : w94.cell? ⟨zH, 3, none⟩ = some (.string (⟨#[]⟩ : ByteArray)) := (zc zD.out 3).trans rfl; have zxf : w94.cell? ⟨zH, 4, none⟩ = some (.slice none 0 0) := (zc zD.out 4).trans rfl; have zyf := zb zD.out 0; have zzf := zb zD.out 1; have zAf := zb zD.out 2; have zBf := zb zD.out 3; have zCf := zb zD.out 4; obtain ⟨Ao96, co96, eo96⟩ := Kd.R_slice zM.out; subst eo96; obtain ⟨Ao97, co97, eo97⟩ := Kd.R_slice zN.out; subst eo97) | ((with_reducible refine zo (f := 28) rfl ?_); have y0_ := Aside0.mk (Kd.R_mono (Kd.R_far (p := ⟨zH, 4, none⟩) (Kd.R_far (p := ⟨zH, 3, none⟩) (Kd.R_far (p := ⟨zH, 2, none⟩) (Kd.R_far (p := ⟨zH, 1, none⟩) (Kd.R_far (p := ⟨zH, 0, none⟩) (Kd.R_types zL.out zD.out (by decide)) (fun _ hk => hk.2) (.int .i64 t374)) (fun _ hk => hk.2) (.slice Ao96 t375.length co96)) (fun _ hk => hk.2) (.bool t378)) (fun _ hk => hk.2) (.string t379)) (fun _ hk => hk.2) (.slice Ao97 t380.length co97)) (fun _ h_ => h_.1)); refine zy (some 17) rfl rfl Tryd.func28 (by kernel_rfl) rfl #[.slice A0 l0.length c0] rfl (by (try simp only [List.map_toArray, List.map_cons, List.map_nil]); first | done | rfl) ?_; (with_reducible refine (laws_toByteS.calls k _ _ l0 t384 _ ?side1 ?side2 A5.out).mono ?_); (case side1 => exact Kd.C_below HR0.out (by repeat (first | (with_reducible first | exact HB.out | apply zh | apply zd | apply zi | refine zl ?_ zU.out) | exact HB.out))); (case side2 => exact HC0.out); rintro e w98 ⟨v385, rfl, zT, hb⟩; refine ⟨_, rfl, ?_⟩; have n0_ := Aside0.mk (Kd.R_elder' (RL y0_.out) (Kd.R_base zT) hb); have n1_ := Aside0.mk (Kd.R_below (RL ((Kd.R_mono (Kd.R_far (p := ⟨zH, 4, none⟩) (Kd.R_far (p := ⟨zH, 3, none⟩) (Kd.R_far (p := ⟨zH, 2, none⟩) (Kd.R_far (p := ⟨zH, 1, none⟩) (Kd.R_far (p := ⟨zH, 0, none⟩) (Kd.R_types zM.out zD.out (by decide)) (fun _ hk => hk.2) (.int .i64 t374)) (fun _ hk => hk.2) (.slice Ao96 t375.length co96)) (fun _ hk => hk.2) (.bool t378)) (fun _ hk => hk.2) (.string t379)) (fun _ hk => hk.2) (.slice Ao97 t380.length co97)) (fun _ h_ => h_.1)))) hb); have n2_ := Aside0.mk (Kd.R_below (RL ((Kd.R_mono (Kd.R_far (p := ⟨zH, 4, none⟩) (Kd.R_far (p := ⟨zH, 3, none⟩) (Kd.R_far (p := ⟨zH, 2, none⟩) (Kd.R_far (p := ⟨zH, 1, none⟩) (Kd.R_far (p := ⟨zH, 0, none⟩) (Kd.R_types zN.out zD.out (by decide)) (fun _ hk => hk.2) (.int .i64 t374)) (fun _ hk => hk.2) (.slice Ao96 t375.length co96)) (fun _ hk => hk.2) (.bool t378)) (fun _ hk => hk.2) (.string t379)) (fun _ hk => hk.2) (.slice Ao97 t380.length co97)) (fun _ h_ => h_.1)))) hb); have n3_ := Aside0.mk (Kd.R_lower (Kd.R_new' zT (Kd.R_lt (RL y0_.out))) (zn (by repeat (first | (with_reducible first | exact HB.out | apply zh | apply zd | apply zi | refine zl ?_ zU.out) | exact HB.out)))); have n4_ := Aside0.mk (zp (g := zH) (o := .cells #[.int .i64 t374, .slice Ao96 t375.length co96, .bool t378, .string t379, .slice Ao97 t380.length co97] 66 (0, 0)) (bfin (by (repeat (first | (with_reducible first | refine zf ?_ _ | refine zj ?_ | refine ze ?_ _) | apply zA)); exact zD.out) (by rfl)) hb); have n5_ := Aside0.mk (zm (by repeat (first | (with_reducible first | exact HB.out | apply zh | apply zd | apply zi | refine zl ?_ zU.out) | exact HB.out)) hb); clear zL; clear zM; clear zN; clear zD; clear HB; have zL := n0_; have zM := n1_; have zN := n2_; have zO := n3_; have zD := n4_; have HB := n5_; clear n0_ n1_ n2_ n3_ n4_ n5_; (try clear hb); (try clear hb2); (try clear hk); (try clear hi); (try clear zT); obtain ⟨Ao99, co99, eo99⟩ := Kd.R_slice zO.out; subst eo99; (try clear y0_)) | ((with_reducible refine zo (f := 29) rfl ?_); refine zy (some 19) rfl rfl Tryd.func29 (by kernel_rfl) rfl #[.slice Ao99 t384.length co99] rfl (by (try simp only [List.map_toArray, List.map_cons, List.map_nil]); first | done | rfl) ?_; (with_reducible refine (impl_ParseLine.calls k _ _ t384 t387 t388 t391 t392 t393 _ ?side1 ?side2 A6.out ?globMAX_).mono ?_); (case globMAX_ => exact Go.Proofs.YtfiojiokmkiflaaDoorH.GFMAX.below HGMAX_.out (by repeat (first | (with_reducible first | exact HB.out | exact Below.refl _ _ | apply zh | apply zd | apply zi | refine zl ?_ (Aside0.out (by assumption))) | exact HB.out))); (case side1 => repeat (first | exact (Kd.R_reads' zO.out).2.2 | (with_reducible refine Kd.C_alloc ?_ _) | (with_reducible refine Kd.C_drewN ?_ _) | (with_reducible refine Kd.C_drew ?_))); (case side2 => exact (Kd.R_reads' zO.out).2.1); rintro e w100 ⟨v389, v394, rfl, zT, zZ, hb⟩; refine ⟨_, rfl, ?_⟩; have n0_ := Aside0.mk (Kd.R_below (RL zL.out) hb); have n1_ := Aside0.mk (Kd.R_elder' (RL zM.out) (Kd.R_base zT) hb); have n2_ := Aside0.mk (Kd.R_elder' (RL zN.out) (Kd.R_base zZ) hb); have n3_ := Aside0.mk (Kd.R_below (RL zO.out) hb); have n4_ := Aside0.mk (Kd.R_lower (Kd.R_new' zT (Kd.R_lt (RL zM.out))) (zn (by exact bl HB.out))); have n5_ := Aside0.mk (Kd.R_lower (Kd.R_new' zZ (Kd.R_lt (RL zN.out))) (zn (by exact bl HB.out))); have n6_ := Aside0.mk (zp (g := zH) (o := .cells #[.int .i64 t374, .slice Ao96 t375.length co96, .bool t378, .string t379, .slice Ao97 t380.length co97] 66 (0, 0)) (BL zD.out) hb); have n7_ := Aside0.mk (zm (by exact bl HB.out) hb); clear zL; clear zM; clear zN; clear zO; clear zD; clear HB; have zL := n0_; have zM := n1_; have zN := n2_; have zO := n3_; have zQ := n4_; have zR := n5_; have zD := n6_; have HB := n7_; clear n0_ n1_ n2_ n3_ n4_ n5_ n6_ n7_; (try clear hb); (try clear hb2); (try clear hk); (try clear hi); (try clear zT); (try clear zZ)) | ((with_reducible refine zu (N := 5) rfl ?_); refine zz ?hg (N := 5) ?hd (cs := #[.int .i64 0, .slice none 0 0, .bool false, .string (⟨#[]⟩ : ByteArray), .slice none 0 0]) (t := 66) ?hr ?_; (case hd => rfl); (case hg => rfl); (case hr => first | (go_simp; done) | (go_simp; rfl)); intro zE hg w101 hbox hb; have n0_ := Aside0.mk (Kd.R_below (RL zL.out) hb); have n1_ := Aside0.mk (Kd.R_below (RL zM.out) hb); have n2_ := Aside0.mk (Kd.R_below (RL zN.out) hb); have n3_ := Aside0.mk (Kd.R_below (RL zO.out) hb); have n4_ := Aside0.mk (Kd.R_below (RL zQ.out) hb); have n5_ := Aside0.mk (Kd.R_below (RL zR.out) hb); have n6_ := Aside0.mk (zp (g := zH) (o := .cells #[.int .i64 t374, .slice Ao96 t375.length co96, .bool t378, .string t379, .slice Ao97 t380.length co97] 66 (0, 0)) (BL zD.out) hb); have n7_ := Aside0.mk (zm (by exact bl HB.out) hb); have n8_ := Aside0.mk (hbox); have n9_ := Aside0.mk ((by rw [hg]; exact (zn (by exact bl HB.out)) : w.heap.size ≤ zE)); have n10_ := Aside0.mk ((by rw [hg]; exact (zn (by exact bl HB.out)) : w.heap.size ≤ zE)); have n11_ := Aside0.mk ((by rw [hg]; exact Nat.ne_of_lt (zB (g := zH) (o := .cells #[.int .i64 t374, .slice Ao96 t375.length co96, .bool t378, .string t379, .slice Ao97 t380.length co97] 66 (0, 0)) (BL zD.out)) : zH ≠ zE)); have n12_ := Aside0.mk ((by rw [hg]; exact Nat.ne_of_gt (zB (g := zH) (o := .cells #[.int .i64 t374, .slice Ao96 t375.length co96, .bool t378, .string t379, .slice Ao97 t380.length co97] 66 (0, 0)) (BL zD.out)) : zE ≠ zH)); clear zL; clear zM; clear zN; clear zO; clear zQ; clear zR; clear zD; clear HB; have zL := n0_; have zM := n1_; have zN := n2_; have zO := n3_; have zQ := n4_; have zR := n5_; have zD := n6_; have HB := n7_; have zC := n8_; have GW396 := n9_; have zcb := n10_; have zP := n11_; have zY := n12_; clear n0_ n1_ n2_ n3_ n4_ n5_ n6_ n7_ n8_ n9_ n10_ n11_ n12_; clear hb hbox hg; have zDf := zY.out; have zEf := zP.out; have zfc : w101.cell? ⟨zE, 0, none⟩ = some (.int .i64 0) := (zc zC.out 0).trans rfl; have zgc : w101.cell? ⟨zE, 1, none⟩ = some (.slice none 0 0) := (zc zC.out 1).trans rfl; have zhc : w101.cell? ⟨zE, 2, none⟩ = some (.bool false) := (zc zC.out 2).trans rfl; have zic : w101.cell? ⟨zE, 3, none⟩ = some (.string (⟨#[]⟩ : ByteArray)) := (zc zC.out 3).trans rfl; have zjc : w101.cell? ⟨zE, 4, none⟩ = some (.slice none 0 0) := (zc zC.out 4).trans rfl; have zkc := zb zC.out 0; have zlc := zb zC.out 1; have zmc := zb zC.out 2; have znc := zb zC.out 3; have zoc := zb zC.out 4; obtain ⟨Ao104, co104, eo104⟩ := Kd.R_slice zQ.out; subst eo104; obtain ⟨Ao105, co105, eo105⟩ := Kd.R_slice zR.out; subst eo105; have zpc : w101.cell? ⟨zH, 0, none⟩ = some (.int .i64 t374) := (zc zD.out 0).trans rfl; have zqc : w101.cell? ⟨zH, 1, none⟩ = some (.slice Ao96 t375.length co96) := (zc zD.out 1).trans rfl; have zrc : w101.cell? ⟨zH, 2, none⟩ = some (.bool t378) := (zc zD.out 2).trans rfl; have zsc : w101.cell? ⟨zH, 3, none⟩ = some (.string t379) := (zc zD.out 3).trans rfl; have ztc : w101.cell? ⟨zH, 4, none⟩ = some (.slice Ao97 t380.length co97) := (zc zD.out 4).trans rfl; have zuc := zb zD.out 0; have zvc := zb zD.out 1; have zwc := zb zD.out 2; have zxc := zb zD.out 3; have zyc := zb zD.out 4) | ((with_reducible refine zo (f := 30) rfl ?_); have y0_ := Aside0.mk (Kd.R_mono (Kd.R_far (p := ⟨zE, 4, none⟩) (Kd.R_far (p := ⟨zE, 3, none⟩) (Kd.R_far (p := ⟨zE, 2, none⟩) (Kd.R_far (p := ⟨zE, 1, none⟩) (Kd.R_far (p := ⟨zE, 0, none⟩) (Kd.R_types zQ.out zC.out (by decide)) (fun _ hk => hk.2) (.int .i64 t387)) (fun _ hk => hk.2) (.slice Ao104 t388.length co104)) (fun _ hk => hk.2) (.bool t391)) (fun _ hk => hk.2) (.string t392)) (fun _ hk => hk.2) (.slice Ao105 t393.length co105)) (fun _ h_ => h_.1)); have y1_ := Aside0.mk (Kd.R_mono (Kd.R_far (p := ⟨zE, 4, none⟩) (Kd.R_far (p := ⟨zE, 3, none⟩) (Kd.R_far (p := ⟨zE, 2, none⟩) (Kd.R_far (p := ⟨zE, 1, none⟩) (Kd.R_far (p := ⟨zE, 0, none⟩) (Kd.R_types zR.out zC.out (by decide)) (fun _ hk => hk.2) (.int .i64 t387)) (fun _ hk => hk.2) (.slice Ao104 t388.length co104)) (fun _ hk => hk.2) (.bool t391)) (fun _ hk => hk.2) (.string t392)) (fun _ hk => hk.2) (.slice Ao105 t393.length co105)) (fun _ h_ => h_.1)); have y2_ := Aside0.mk (Kd.R_mono (Kd.R_far (p := ⟨zE, 4, none⟩) (Kd.R_far (p := ⟨zE, 3, none⟩) (Kd.R_far (p := ⟨zE, 2, none⟩) (Kd.R_far (p := ⟨zE, 1, none⟩) (Kd.R_far (p := ⟨zE, 0, none⟩) (Kd.R_types zM.out zC.out (by decide)) (fun _ hk => hk.2) (.int .i64 t387)) (fun _ hk => hk.2) (.slice Ao104 t388.length co104)) (fun _ hk => hk.2) (.bool t391)) (fun _ hk => hk.2) (.string t392)) (fun _ hk => hk.2) (.slice Ao105 t393.length co105)) (fun _ h_ => h_.1)); have y3_ := Aside0.mk (Kd.R_mono (Kd.R_far (p := ⟨zE, 4, none⟩) (Kd.R_far (p := ⟨zE, 3, none⟩) (Kd.R_far (p := ⟨zE, 2, none⟩) (Kd.R_far (p := ⟨zE, 1, none⟩) (Kd.R_far (p := ⟨zE, 0, none⟩) (Kd.R_types zN.out zC.out (by decide)) (fun _ hk => hk.2) (.int .i64 t387)) (fun _ hk => hk.2) (.slice Ao104 t388.length co104)) (fun _ hk => hk.2) (.bool t391)) (fun _ hk => hk.2) (.string t392)) (fun _ hk => hk.2) (.slice Ao105 t393.length co105)) (fun _ h_ => h_.1)); refine zy (some 22) rfl rfl Tryd.func30 (by kernel_rfl) rfl #[.agg #[.int .i64 t387, .slice Ao104 t388.length co104, .bool t391, .string t392, .slice Ao105 t393.length co105], .agg #[.int .i64 t374, .slice Ao96 t375.length co96, .bool t378, .string t379, .slice Ao97 t380.length co97]] rfl (by (try simp only [List.map_toArray, List.map_cons, List.map_nil]); first | done | rfl) ?_; (with_reducible refine (laws_eqLine.calls k t387 _ _ t388 t391 t392 _ _ t393 t374 _ _ t375 t378 t379 _ _ t380 true _ ?side1 ?side2 ?side3 ?side4 ?side5 ?side6 ?side7 ?side8 A7.out).mono ?_); (case side1 => refine (Kd.R_reads' (e := 124) (base := w.heap.size) (ok := fun k_ => (True ∧ some k_ ≠ (.slice Ao96 t375.length co96 : Value).ownBlock)) (n := t388.length) (c := co104) ?_).2.2; exact (RL y0_.out)); (case side2 => exact (Kd.R_reads' zQ.out).2.1); (case side3 => refine (Kd.R_reads' (e := 2) (base := w.heap.size) (ok := fun k_ => (True ∧ some k_ ≠ (.slice Ao97 t380.length co97 : Value).ownBlock)) (n := t393.length) (c := co105) ?_).2.2; exact (RL y1_.out)); (case side4 => exact (Kd.R_reads' zR.out).2.1); (case side5 => refine (Kd.R_reads' (e := 124) (base := w.heap.size) (ok := fun k_ => (True ∧ some k_ ≠ (.slice Ao104 t388.length co104 : Value).ownBlock)) (n := t375.length) (c := co96) ?_).2.2; exact (RL y2_.out)); (case side6 => exact (Kd.R_reads' zM.out).2.1); (case side7 => refine (Kd.R_reads' (e := 2) (base := w.heap.size) (ok := fun k_ => (True ∧ some k_ ≠ (.slice Ao105 t393.length co105 : Value).ownBlock)) (n := t380.length) (c := co97) ?_).2.2; exact (RL y3_.out)); (case side8 => exact (Kd.R_reads' zN.out).2.1); rintro e w107 ⟨rfl, hb⟩; refine ⟨_, rfl, ?_⟩; have n0_ := Aside0.mk (Kd.R_below (RL ((Kd.R_mono (Kd.R_far (p := ⟨zE, 4, none⟩) (Kd.R_far (p := ⟨zE, 3, none⟩) (Kd.R_far (p := ⟨zE, 2, none⟩) (Kd.R_far (p := ⟨zE, 1, none⟩) (Kd.R_far (p := ⟨zE, 0, none⟩) (Kd.R_types zL.out zC.out (by decide)) (fun _ hk => hk.2) (.int .i64 t387)) (fun _ hk => hk.2) (.slice Ao104 t388.length co104)) (fun _ hk => hk.2) (.bool t391)) (fun _ hk => hk.2) (.string t392)) (fun _ hk => hk.2) (.slice Ao105 t393.length co105)) (fun _ h_ => h_.1)))) hb); have n1_ := Aside0.mk (Kd.R_below (RL y2_.out) hb); have n2_ := Aside0.mk (Kd.R_below (RL y3_.out) hb); have n3_ := Aside0.mk (Kd.R_below (RL ((Kd.R_mono (Kd.R_far (p := ⟨zE, 4, none⟩) (Kd.R_far (p := ⟨zE, 3, none⟩) (Kd.R_far (p := ⟨zE, 2, none⟩) (Kd.R_far (p := ⟨zE, 1, none⟩) (Kd.R_far (p := ⟨zE, 0, none⟩) (Kd.R_types zO.out zC.out (by decide)) (fun _ hk => hk.2) (.int .i64 t387)) (fun _ hk => hk.2) (.slice Ao104 t388.length co104)) (fun _ hk => hk.2) (.bool t391)) (fun _ hk => hk.2) (.string t392)) (fun _ hk => hk.2) (.slice Ao105 t393.length co105)) (fun _ h_ => h_.1)))) hb); have n4_ := Aside0.mk (Kd.R_below (RL y0_.out) hb); have n5_ := Aside0.mk (Kd.R_below (RL y1_.out) hb); have n6_ := Aside0.mk (zp (g := zH) (o := .cells #[.int .i64 t374, .slice Ao96 t375.length co96, .bool t378, .string t379, .slice Ao97 t380.length co97] 66 (0, 0)) (by (with_reducible repeat (first | refine zf ?_ _ | refine zj ?_ | refine ze ?_ _)); refine zq ?_ zP.out _; (with_reducible repeat (first | refine zf ?_ _ | refine zj ?_ | refine ze ?_ _)); refine zq ?_ zP.out _; (with_reducible repeat (first | refine zf ?_ _ | refine zj ?_ | refine ze ?_ _)); refine zq ?_ zP.out _; (with_reducible repeat (first | refine zf ?_ _ | refine zj ?_ | refine ze ?_ _)); refine zq ?_ zP.out _; (with_reducible repeat (first | refine zf ?_ _ | refine zj ?_ | refine ze ?_ _)); refine zq ?_ zP.out _; (with_reducible repeat (first | refine zf ?_ _ | refine zj ?_ | refine ze ?_ _)); exact zD.out) hb); have n7_ := Aside0.mk (zp (g := zE) (o := .cells #[.int .i64 t387, .slice Ao104 t388.length co104, .bool t391, .string t392, .slice Ao105 t393.length co105] 66 (0, 0)) (bfin (by (repeat (first | (with_reducible first | refine zf ?_ _ | refine zj ?_ | refine ze ?_ _) | apply zA)); exact zC.out) (by rfl)) hb); have n8_ := Aside0.mk (zm (by repeat (first | (with_reducible first | exact HB.out | apply zh | apply zd | apply zi | refine zl ?_ zU.out | refine zl ?_ zcb.out) | exact HB.out)) hb); clear zL; clear zM; clear zN; clear zO; clear zQ; clear zR; clear zD; clear zC; clear HB; have zL := n0_; have zM := n1_; have zN := n2_; have zO := n3_; have zQ := n4_; have zR := n5_; have zD := n6_; have zC := n7_; have HB := n8_; clear n0_ n1_ n2_ n3_ n4_ n5_ n6_ n7_ n8_; (try clear hb); (try clear hb2); (try clear hk); (try clear hi); (try clear y0_ y1_ y2_ y3_)) | ((with_reducible refine zo (f := 28) rfl ?_); refine zy (some 26) rfl rfl Tryd.func28 (by kernel_rfl) rfl #[.slice A0 l0.length c0] rfl (by (try simp only [List.map_toArray, List.map_cons, List.map_nil]); first | done | rfl) ?_; (with_reducible refine (laws_toByteS.calls k _ _ l0 t398 _ ?side1 ?side2 A9.out).mono ?_); (case side1 => repeat (first | exact (Kd.C_below HR0.out HB.out) | (with_reducible refine Kd.C_alloc ?_ _) | (with_reducible refine Kd.C_drewN ?_ _) | (with_reducible refine Kd.C_drew ?_))); (case side2 => exact HC0.out); rintro e w108 ⟨v399, rfl, zT, hb⟩; refine ⟨_, rfl, ?_⟩; have n0_ := Aside0.mk (Kd.R_elder' (RL zL.out) (Kd.R_base zT) hb); have n1_ := Aside0.mk (Kd.R_below (RL zM.out) hb); have n2_ := Aside0.mk (Kd.R_below (RL zN.out) hb); have n3_ := Aside0.mk (Kd.R_elder' (RL zO.out) (Kd.R_base zT) hb); have n4_ := Aside0.mk (Kd.R_below (RL zQ.out) hb); have n5_ := Aside0.mk (Kd.R_below (RL zR.out) hb); have n6_ := Aside0.mk (Kd.R_lower (Kd.R_new' (Kd.R_new' zT (Kd.R_lt (RL zL.out))) (Kd.R_lt (RL zO.out))) (zn (by exact bl HB.out))); have n7_ := Aside0.mk (zp (g := zH) (o := .cells #[.int .i64 t374, .slice Ao96 t375.length co96, .bool t378, .string t379, .slice Ao97 t380.length co97] 66 (0, 0)) (BL zD.out) hb); have n8_ := Aside0.mk (zp (g := zE) (o := .cells #[.int .i64 t387, .slice Ao104 t388.length co104, .bool t391, .string t392, .slice Ao105 t393.length co105] 66 (0, 0)) (BL zC.out) hb); have n9_ := Aside0.mk (zm (by exact bl HB.out) hb); clear zL; clear zM; clear zN; clear zO; clear zQ; clear zR; clear zD; clear zC; clear HB; have zL := n0_; have zM := n1_; have zN := n2_; have zO := n3_; have zQ := n4_; have zR := n5_; have zdb := n6_; have zD := n7_; have zC := n8_; have HB := n9_; clear n0_ n1_ n2_ n3_ n4_ n5_ n6_ n7_ n8_ n9_; (try clear hb); (try clear hb2); (try clear hk); (try clear hi); (try clear zT); obtain ⟨Ao109, co109, eo109⟩ := Kd.R_slice zdb.out; subst eo109) | ((with_reducible refine zo (f := 31) rfl ?_); refine zy (some 27) rfl rfl Tryd.func31 (by kernel_rfl) rfl #[.slice Ao99 t384.length co99, .slice Ao109 t398.length co109] rfl (by (try simp only [List.map_toArray, List.map_cons, List.map_nil]); first | done | rfl) ?_; (with_reducible refine (laws_eqByteS.calls k _ _ t384 _ _ t398 false _ ?side1 ?side2 ?side3 ?side4 A10.out).mono ?_); (case side1 => repeat (first | exact (Kd.R_reads' zO.out).2.2 | (with_reducible refine Kd.C_alloc ?_ _) | (with_reducible refine Kd.C_drewN ?_ _) | (with_reducible refine Kd.C_drew ?_))); (case side2 => exact (Kd.R_reads' zO.out).2.1); (case side3 => repeat (first | exact (Kd.R_reads' zdb.out).2.2 | (with_reducible refine Kd.C_alloc ?_ _) | (with_reducible refine Kd.C_drewN ?_ _) | (with_reducible refine Kd.C_drew ?_))); (case side4 => exact (Kd.R_reads' zdb.out).2.1); rintro e w' ⟨rfl, ⟨nd, rfl⟩⟩; refine ⟨_, rfl, ?_⟩))
    go_ret
    exact ⟨by first | rfl | (simp [*] <;> rfl), by repeat (first | (with_reducible first | exact HB.out | apply zh | apply zd | apply zi | refine zl ?_ zU.out | refine zl ?_ zcb.out) | exact HB.out)⟩
  ·replace c8 := Bool.eq_false_iff.mpr c8
   subst c8
   rw [if_neg (show ¬ (false = true) by decide)] at H
   obtain rfl := Option.some.inj H
   go_enter Tryd.func5, Tryd.ntmps5
   go_wp2_with (first | ((with_reducible refine zo (f := 28) rfl ?_); refine zy (some 14) rfl rfl Tryd.func28 (by kernel_rfl) rfl #[.slice A0 l0.length c0] rfl (by (try simp only [List.map_toArray, List.map_cons, List.map_nil]); first | done | rfl) ?_; (with_reducible refine (laws_toByteS.calls k _ _ l0 t371 _ ?side1 ?side2 A3.out).mono ?_); (case side1 => repeat (first | exact HR0.out | (with_reducible refine Kd.C_alloc ?_ _) | (with_reducible refine Kd.C_drewN ?_ _) | (with_reducible refine Kd.C_drew ?_))); (case side2 => exact HC0.out); rintro e w110 ⟨v372, rfl, zT, hb⟩; refine ⟨_, rfl, ?_⟩; have n0_ := Aside0.mk (Kd.R_lower zT (zn (by exact bl HB.out))); have n1_ := Aside0.mk (zm (by exact bl HB.out) hb); clear HB; have zL := n0_; have HB := n1_; clear n0_ n1_; (try clear hb); (try clear hb2); (try clear hk); (try clear hi); (try clear zT); obtain ⟨Ao111, co111, eo111⟩ := Kd.R_slice zL.out; subst eo111) | ((with_reducible refine zo (f := 27) rfl ?_); refine zy (some 15) rfl rfl Tryd.func27 (by kernel_rfl) rfl #[.slice Ao111 t371.length co111] rfl (by (try simp only [List.map_toArray, List.map_cons, List.map_nil]); first | done | rfl) ?_; (with_reducible refine (spec_ParseLine.calls k _ _ t371 t374 t375 t378 t379 t380 _ ?side1 ?side2 A4.out).mono ?_); (case side1 => repeat (first | exact (Kd.R_reads' zL.out).2.2 | (with_reducible refine Kd.C_alloc ?_ _) | (with_reducible refine Kd.C_drewN ?_ _) | (with_reducible refine Kd.C_drew ?_))); (case side2 => exact (Kd.R_reads' zL.out).2.1); rintro e w112 ⟨v376, v381, rfl, zT, zZ, hb⟩; refine ⟨_, rfl, ?_⟩; have n0_ := Aside0.mk (Kd.R_below (RL zL.out) hb); have n1_ := Aside0.mk (Kd.R_lower zT (zn (by exact bl HB.out))); have n2_ := Aside0.mk (Kd.R_lower zZ (zn (by exact bl HB.out))); have n3_ := Aside0.mk (zm (by exact bl HB.out) hb); clear zL; clear HB; have zL := n0_; have zM := n1_; have zN := n2_; have HB := n3_; clear n0_ n1_ n2_ n3_; (try clear hb); (try clear hb2); (try clear hk); (try clear hi); (try clear zT); (try clear zZ)) | ((with_reducible refine zu (N := 3) rfl ?_); refine zz ?hg (N := 3) ?hd (cs := #[.int .i64 0, .slice none 0 0, .bool false, .string (⟨#[]⟩ : ByteArray), .slice none 0 0]) (t := 66) ?hr ?_; (case hd => rfl); (case hg => rfl); (case hr => first | (go_simp; done) | (go_simp; rfl)); intro zH hg w113 hbox hb; have n0_ := Aside0.mk (Kd.R_below (RL zL.out) hb); have n1_ := Aside0.mk (Kd.R_below (RL zM.out) hb); have n2_ := Aside0.mk (Kd.R_below (RL zN.out) hb); have n3_ := Aside0.mk (zm (by exact bl HB.out) hb); have n4_ := Aside0.mk (hbox); have n5_ := Aside0.mk ((by rw [hg]; exact (zn (by exact bl HB.out)) : w.heap.size ≤ zH)); have n6_ := Aside0.mk ((by rw [hg]; exact (zn (by exact bl HB.out)) : w.heap.size ≤ zH)); clear zL; clear zM; clear zN; clear HB; have zL := n0_; have zM := n1_; have zN := n2_; have HB := n3_; have zD := n4_; have GW383 := n5_; have zU := n6_; clear n0_ n1_ n2_ n3_ n4_ n5_ n6_; clear hb hbox hg; have zzc : w113.cell? ⟨zH, 0, none⟩ = some (.int .i64 0) := (zc zD.out 0).trans rfl; have zAc : w113.cell? ⟨zH, 1, none⟩ = some (.slice none 0 0) := (zc zD.out 1).trans rfl; have zBc : w113.cell? ⟨zH, 2, none⟩ = some (.bool false) := (zc zD.out 2).trans rfl; have zCc : w113.cell? ⟨zH, 3, none⟩ = some (.string (⟨#[]⟩ : ByteArray)) := (zc zD.out 3).trans rfl; have zDc : w113.cell? ⟨zH, 4, none⟩ = some (.slice none 0 0) := (zc zD.out 4).trans rfl; have zEc := zb zD.out 0; have zFc := zb zD.out 1; have zGc := zb zD.out 2; have zHc := zb zD.out 3; have zIc := zb zD.out 4; obtain ⟨Ao115, co115, eo115⟩ := Kd.R_slice zM.out; subst eo115; obtain ⟨Ao116, co116, eo116⟩ := Kd.R_slice zN.out; subst eo116) | ((with_reducible refine zo (f := 28) rfl ?_); have y0_ := Aside0.mk (Kd.R_mono (Kd.R_far (p := ⟨zH, 4, none⟩) (Kd.R_far (p := ⟨zH, 3, none⟩) (Kd.R_far (p := ⟨zH, 2, none⟩) (Kd.R_far (p := ⟨zH, 1, none⟩) (Kd.R_far (p := ⟨zH, 0, none⟩) (Kd.R_types zL.out zD.out (by decide)) (fun _ hk => hk.2) (.int .i64 t374)) (fun _ hk => hk.2) (.slice Ao115 t375.length co115)) (fun _ hk => hk.2) (.bool t378)) (fun _ hk => hk.2) (.string t379)) (fun _ hk => hk.2) (.slice Ao116 t380.length co116)) (fun _ h_ => h_.1)); refine zy (some 17) rfl rfl Tryd.func28 (by kernel_rfl) rfl #[.slice A0 l0.length c0] rfl (by (try simp only [List.map_toArray, List.map_cons, List.map_nil]); first | done | rfl) ?_; (with_reducible refine (laws_toByteS.calls k _ _ l0 t384 _ ?side1 ?side2 A5.out).mono ?_); (case side1 => exact Kd.C_below HR0.out (by repeat (first | (with_reducible first | exact HB.out | apply zh | apply zd | apply zi | refine zl ?_ zU.out) | exact HB.out))); (case side2 => exact HC0.out); rintro e w117 ⟨v385, rfl, zT, hb⟩; refine ⟨_, rfl, ?_⟩; have n0_ := Aside0.mk (Kd.R_elder' (RL y0_.out) (Kd.R_base zT) hb); have n1_ := Aside0.mk (Kd.R_below (RL ((Kd.R_mono (Kd.R_far (p := ⟨zH, 4, none⟩) (Kd.R_far (p := ⟨zH, 3, none⟩) (Kd.R_far (p := ⟨zH, 2, none⟩) (Kd.R_far (p := ⟨zH, 1, none⟩) (Kd.R_far (p := ⟨zH, 0, none⟩) (Kd.R_types zM.out zD.out (by decide)) (fun _ hk => hk.2) (.int .i64 t374)) (fun _ hk => hk.2) (.slice Ao115 t375.length co115)) (fun _ hk => hk.2) (.bool t378)) (fun _ hk => hk.2) (.string t379)) (fun _ hk => hk.2) (.slice Ao116 t380.length co116)) (fun _ h_ => h_.1)))) hb); have n2_ := Aside0.mk (Kd.R_below (RL ((Kd.R_mono (Kd.R_far (p := ⟨zH, 4, none⟩) (Kd.R_far (p := ⟨zH, 3, none⟩) (Kd.R_far (p := ⟨zH, 2, none⟩) (Kd.R_far (p := ⟨zH, 1, none⟩) (Kd.R_far (p := ⟨zH, 0, none⟩) (Kd.R_types zN.out zD.out (by decide)) (fun _ hk => hk.2) (.int .i64 t374)) (fun _ hk => hk.2) (.slice Ao115 t375.length co115)) (fun _ hk => hk.2) (.bool t378)) (fun _ hk => hk.2) (.string t379)) (fun _ hk => hk.2) (.slice Ao116 t380.length co116)) (fun _ h_ => h_.1)))) hb); have n3_ := Aside0.mk (Kd.R_lower (Kd.R_new' zT (Kd.R_lt (RL y0_.out))) (zn (by repeat (first | (with_reducible first | exact HB.out | apply zh | apply zd | apply zi | refine zl ?_ zU.out) | exact HB.out)))); have n4_ := Aside0.mk (zp (g := zH) (o := .cells #[.int .i64 t374, .slice Ao115 t375.length co115, .bool t378, .string t379, .slice Ao116 t380.length co116] 66 (0, 0)) (bfin (by (repeat (first | (with_reducible first | refine zf ?_ _ | refine zj ?_ | refine ze ?_ _) | apply zA)); exact zD.out) (by rfl)) hb); have n5_ := Aside0.mk (zm (by repeat (first | (with_reducible first | exact HB.out | apply zh | apply zd | apply zi | refine zl ?_ zU.out) | exact HB.out)) hb); clear zL; clear zM; clear zN; clear zD; clear HB; have zL := n0_; have zM := n1_; have zN := n2_; have zO := n3_; have zD := n4_; have HB := n5_; clear n0_ n1_ n2_ n3_ n4_ n5_; (try clear hb); (try clear hb2); (try clear hk); (try clear hi); (try clear zT); obtain ⟨Ao118, co118, eo118⟩ := Kd.R_slice zO.out; subst eo118; (try clear y0_)) | ((with_reducible refine zo (f := 29) rfl ?_); refine zy (some 19) rfl rfl Tryd.func29 (by kernel_rfl) rfl #[.slice Ao118 t384.length co118] rfl (by (try simp only [List.map_toArray, List.map_cons, List.map_nil]); first | done | rfl) ?_; (with_reducible refine (impl_ParseLine.calls k _ _ t384 t387 t388 t391 t392 t393 _ ?side1 ?side2 A6.out ?globMAX_).mono ?_); (case globMAX_ => exact Go.Proofs.YtfiojiokmkiflaaDoorH.GFMAX.below HGMAX_.out (by repeat (first | (with_reducible first | exact HB.out | exact Below.refl _ _ | apply zh | apply zd | apply zi | refine zl ?_ (Aside0.out (by assumption))) | exact HB.out))); (case side1 => repeat (first | exact (Kd.R_reads' zO.out).2.2 | (with_reducible refine Kd.C_alloc ?_ _) | (with_reducible refine Kd.C_drewN ?_ _) | (with_reducible refine Kd.C_drew ?_))); (case side2 => exact (Kd.R_reads' zO.out).2.1); rintro e w119 ⟨v389, v394, rfl, zT, zZ, hb⟩; refine ⟨_, rfl, ?_⟩; have n0_ := Aside0.mk (Kd.R_below (RL zL.out) hb); have n1_ := Aside0.mk (Kd.R_elder' (RL zM.out) (Kd.R_base zT) hb); have n2_ := Aside0.mk (Kd.R_elder' (RL zN.out) (Kd.R_base zZ) hb); have n3_ := Aside0.mk (Kd.R_below (RL zO.out) hb); have n4_ := Aside0.mk (Kd.R_lower (Kd.R_new' zT (Kd.R_lt (RL zM.out))) (zn (by exact bl HB.out))); have n5_ := Aside0.mk (Kd.R_lower (Kd.R_new' zZ (Kd.R_lt (RL zN.out))) (zn (by exact bl HB.out))); have n6_ := Aside0.mk (zp (g := zH) (o := .cells #[.int .i64 t374, .slice Ao115 t375.length co115, .bool t378, .string t379, .slice Ao116 t380.length co116] 66 (0, 0)) (BL zD.out) hb); have n7_ := Aside0.mk (zm (by exact bl HB.out) hb); clear zL; clear zM; clear zN; clear zO; clear zD; clear HB; have zL := n0_; have zM := n1_; have zN := n2_; have zO := n3_; have zQ := n4_; have zR := n5_; have zD := n6_; have HB := n7_; clear n0_ n1_ n2_ n3_ n4_ n5_ n6_ n7_; (try clear hb); (try clear hb2); (try clear hk); (try clear hi); (try clear zT); (try clear zZ)) | ((with_reducible refine zu (N := 5) rfl ?_); refine zz ?hg (N := 5) ?hd (cs := #[.int .i64 0, .slice none 0 0, .bool false, .string (⟨#[]⟩ : ByteArray), .slice none 0 0]) (t := 66) ?hr ?_; (case hd => rfl); (case hg => rfl); (case hr => first | (go_simp; done) | (go_simp; rfl)); intro zE hg w120 hbox hb; have n0_ := Aside0.mk (Kd.R_below (RL zL.out) hb); have n1_ := Aside0.mk (Kd.R_below (RL zM.out) hb); have n2_ := Aside0.mk (Kd.R_below (RL zN.out) hb); have n3_ := Aside0.mk (Kd.R_below (RL zO.out) hb); have n4_ := Aside0.mk (Kd.R_below (RL zQ.out) hb); have n5_ := Aside0.mk (Kd.R_below (RL zR.out) hb); have n6_ := Aside0.mk (zp (g := zH) (o := .cells #[.int .i64 t374, .slice Ao115 t375.length co115, .bool t378, .string t379, .slice Ao116 t380.length co116] 66 (0, 0)) (BL zD.out) hb); have n7_ := Aside0.mk (zm (by exact bl HB.out) hb); have n8_ := Aside0.mk (hbox); have n9_ := Aside0.mk ((by rw [hg]; exact (zn (by exact bl HB.out)) : w.heap.size ≤ zE)); have n10_ := Aside0.mk ((by rw [hg]; exact (zn (by exact bl HB.out)) : w.heap.size ≤ zE)); have n11_ := Aside0.mk ((by rw [hg]; exact Nat.ne_of_lt (zB (g := zH) (o := .cells #[.int .i64 t374, .slice Ao115 t375.length co115, .bool t378, .string t379, .slice Ao116 t380.length co116] 66 (0, 0)) (BL zD.out)) : zH ≠ zE)); have n12_ := Aside0.mk ((by rw [hg]; exact Nat.ne_of_gt (zB (g := zH) (o := .cells #[.int .i64 t374, .slice Ao115 t375.length co115, .bool t378, .string t379, .slice Ao116 t380.length co116] 66 (0, 0)) (BL zD.out)) : zE ≠ zH)); clear zL; clear zM; clear zN; clear zO; clear zQ; clear zR; clear zD; clear HB; have zL := n0_; have zM := n1_; have zN := n2_; have zO := n3_; have zQ := n4_; have zR := n5_; have zD := n6_; have HB := n7_; have zC := n8_; have GW396 := n9_; have zcb := n10_; have zP := n11_; have zY := n12_; clear n0_ n1_ n2_ n3_ n4_ n5_ n6_ n7_ n8_ n9_ n10_ n11_ n12_; clear hb hbox hg; have zFf := zY.out; have zGf := zP.out; have zJc : w120.cell? ⟨zE, 0, none⟩ = some (.int .i64 0) := (zc zC.out 0).trans rfl; have zKc : w120.cell? ⟨zE, 1, none⟩ = some (.slice none 0 0) := (zc zC.out 1).trans rfl; have zLc : w120.cell? ⟨zE, 2, none⟩ = some (.bool false) := (zc zC.out 2).trans rfl; have zMc : w120.cell? ⟨zE, 3, none⟩ = some (.string (⟨#[]⟩ : ByteArray)) := (zc zC.out 3).trans rfl; have zNc : w120.cell? ⟨zE, 4, none⟩ = some (.slice none 0 0) := (zc zC.out 4).trans rfl; have zOc := zb zC.out 0; have zPc := zb zC.out 1; have zQc := zb zC.out 2; have zRc := zb zC.out 3; have zSc := zb zC.out 4; obtain ⟨Ao123, co123, eo123⟩ := Kd.R_slice zQ.out; subst eo123; obtain ⟨Ao124, co124, eo124⟩ := Kd.R_slice zR.out; subst eo124; have zTc : w120.cell? ⟨zH, 0, none⟩ = some (.int .i64 t374) := (zc zD.out 0).trans rfl; have zUc : w120.cell? ⟨zH, 1, none⟩ = some (.slice Ao115 t375.length co115) := (zc zD.out 1).trans rfl; have zVc : w120.cell? ⟨zH, 2, none⟩ = some (.bool t378) := (zc zD.out 2).trans rfl; have zWc : w120.cell? ⟨zH, 3, none⟩ = some (.string t379) := (zc zD.out 3).trans rfl; have zXc : w120.cell? ⟨zH, 4, none⟩ = some (.slice Ao116 t380.length co116) := (zc zD.out 4).trans rfl; have zYc := zb zD.out 0; have zZc := zb zD.out 1; have zad := zb zD.out 2; have zbd := zb zD.out 3; have zcd := zb zD.out 4) | ((with_reducible refine zo (f := 30) rfl ?_); have y0_ := Aside0.mk (Kd.R_mono (Kd.R_far (p := ⟨zE, 4, none⟩) (Kd.R_far (p := ⟨zE, 3, none⟩) (Kd.R_far (p := ⟨zE, 2, none⟩) (Kd.R_far (p := ⟨zE, 1, none⟩) (Kd.R_far (p := ⟨zE, 0, none⟩) (Kd.R_types zQ.out zC.out (by decide)) (fun _ hk => hk.2) (.int .i64 t387)) (fun _ hk => hk.2) (.slice Ao123 t388.length co123)) (fun _ hk => hk.2) (.bool t391)) (fun _ hk => hk.2) (.string t392)) (fun _ hk => hk.2) (.slice Ao124 t393.length co124)) (fun _ h_ => h_.1)); have y1_ := Aside0.mk (Kd.R_mono (Kd.R_far (p := ⟨zE, 4, none⟩) (Kd.R_far (p := ⟨zE, 3, none⟩) (Kd.R_far (p := ⟨zE, 2, none⟩) (Kd.R_far (p := ⟨zE, 1, none⟩) (Kd.R_far (p := ⟨zE, 0, none⟩) (Kd.R_types zR.out zC.out (by decide)) (fun _ hk => hk.2) (.int .i64 t387)) (fun _ hk => hk.2) (.slice Ao123 t388.length co123)) (fun _ hk => hk.2) (.bool t391)) (fun _ hk => hk.2) (.string t392)) (fun _ hk => hk.2) (.slice Ao124 t393.length co124)) (fun _ h_ => h_.1)); have y2_ := Aside0.mk (Kd.R_mono (Kd.R_far (p := ⟨zE, 4, none⟩) (Kd.R_far (p := ⟨zE, 3, none⟩) (Kd.R_far (p := ⟨zE, 2, none⟩) (Kd.R_far (p := ⟨zE, 1, none⟩) (Kd.R_far (p := ⟨zE, 0, none⟩) (Kd.R_types zM.out zC.out (by decide)) (fun _ hk => hk.2) (.int .i64 t387)) (fun _ hk => hk.2) (.slice Ao123 t388.length co123)) (fun _ hk => hk.2) (.bool t391)) (fun _ hk => hk.2) (.string t392)) (fun _ hk => hk.2) (.slice Ao124 t393.length co124)) (fun _ h_ => h_.1)); have y3_ := Aside0.mk (Kd.R_mono (Kd.R_far (p := ⟨zE, 4, none⟩) (Kd.R_far (p := ⟨zE, 3, none⟩) (Kd.R_far (p := ⟨zE, 2, none⟩) (Kd.R_far (p := ⟨zE, 1, none⟩) (Kd.R_far (p := ⟨zE, 0, none⟩) (Kd.R_types zN.out zC.out (by decide)) (fun _ hk => hk.2) (.int .i64 t387)) (fun _ hk => hk.2) (.slice Ao123 t388.length co123)) (fun _ hk => hk.2) (.bool t391)) (fun _ hk => hk.2) (.string t392)) (fun _ hk => hk.2) (.slice Ao124 t393.length co124)) (fun _ h_ => h_.1)); refine zy (some 22) rfl rfl Tryd.func30 (by kernel_rfl) rfl #[.agg #[.int .i64 t387, .slice Ao123 t388.length co123, .bool t391, .string t392, .slice Ao124 t393.length co124], .agg #[.int .i64 t374, .slice Ao115 t375.length co115, .bool t378, .string t379, .slice Ao116 t380.length co116]] rfl (by (try simp only [List.map_toArray, List.map_cons, List.map_nil]); first | done | rfl) ?_; (with_reducible refine (laws_eqLine.calls k t387 _ _ t388 t391 t392 _ _ t393 t374 _ _ t375 t378 t379 _ _ t380 false _ ?side1 ?side2 ?side3 ?side4 ?side5 ?side6 ?side7 ?side8 A7.out).mono ?_); (case side1 => refine (Kd.R_reads' (e := 124) (base := w.heap.size) (ok := fun k_ => (True ∧ some k_ ≠ (.slice Ao115 t375.length co115 : Value).ownBlock)) (n := t388.length) (c := co123) ?_).2.2; exact (RL y0_.out)); (case side2 => exact (Kd.R_reads' zQ.out).2.1); (case side3 => refine (Kd.R_reads' (e := 2) (base := w.heap.size) (ok := fun k_ => (True ∧ some k_ ≠ (.slice Ao116 t380.length co116 : Value).ownBlock)) (n := t393.length) (c := co124) ?_).2.2; exact (RL y1_.out)); (case side4 => exact (Kd.R_reads' zR.out).2.1); (case side5 => refine (Kd.R_reads' (e := 124) (base := w.heap.size) (ok := fun k_ => (True ∧ some k_ ≠ (.slice Ao123 t388.length co123 : Value).ownBlock)) (n := t375.length) (c := co115) ?_).2.2; exact (RL y2_.out)); (case side6 => exact (Kd.R_reads' zM.out).2.1); (case side7 => refine (Kd.R_reads' (e := 2) (base := w.heap.size) (ok := fun k_ => (True ∧ some k_ ≠ (.slice Ao124 t393.length co124 : Value).ownBlock)) (n := t380.length) (c := co116) ?_).2.2; exact (RL y3_.out)); (case side8 => exact (Kd.R_reads' zN.out).2.1); rintro e w126 ⟨rfl, hb⟩; refine ⟨_, rfl, ?_⟩; have n0_ := Aside0.mk (Kd.R_below (RL ((Kd.R_mono (Kd.R_far (p := ⟨zE, 4, none⟩) (Kd.R_far (p := ⟨zE, 3, none⟩) (Kd.R_far (p := ⟨zE, 2, none⟩) (Kd.R_far (p := ⟨zE, 1, none⟩) (Kd.R_far (p := ⟨zE, 0, none⟩) (Kd.R_types zL.out zC.out (by decide)) (fun _ hk => hk.2) (.int .i64 t387)) (fun _ hk => hk.2) (.slice Ao123 t388.length co123)) (fun _ hk => hk.2) (.bool t391)) (fun _ hk => hk.2) (.string t392)) (fun _ hk => hk.2) (.slice Ao124 t393.length co124)) (fun _ h_ => h_.1)))) hb); have n1_ := Aside0.mk (Kd.R_below (RL y2_.out) hb); have n2_ := Aside0.mk (Kd.R_below (RL y3_.out) hb); have n3_ := Aside0.mk (Kd.R_below (RL ((Kd.R_mono (Kd.R_far (p := ⟨zE, 4, none⟩) (Kd.R_far (p := ⟨zE, 3, none⟩) (Kd.R_far (p := ⟨zE, 2, none⟩) (Kd.R_far (p := ⟨zE, 1, none⟩) (Kd.R_far (p := ⟨zE, 0, none⟩) (Kd.R_types zO.out zC.out (by decide)) (fun _ hk => hk.2) (.int .i64 t387)) (fun _ hk => hk.2) (.slice Ao123 t388.length co123)) (fun _ hk => hk.2) (.bool t391)) (fun _ hk => hk.2) (.string t392)) (fun _ hk => hk.2) (.slice Ao124 t393.length co124)) (fun _ h_ => h_.1)))) hb); have n4_ := Aside0.mk (Kd.R_below (RL y0_.out) hb); have n5_ := Aside0.mk (Kd.R_below (RL y1_.out) hb); have n6_ := Aside0.mk (zp (g := zH) (o := .cells #[.int .i64 t374, .slice Ao115 t375.length co115, .bool t378, .string t379, .slice Ao116 t380.length co116] 66 (0, 0)) (by (with_reducible repeat (first | refine zf ?_ _ | refine zj ?_ | refine ze ?_ _)); refine zq ?_ zP.out _; (with_reducible repeat (first | refine zf ?_ _ | refine zj ?_ | refine ze ?_ _)); refine zq ?_ zP.out _; (with_reducible repeat (first | refine zf ?_ _ | refine zj ?_ | refine ze ?_ _)); refine zq ?_ zP.out _; (with_reducible repeat (first | refine zf ?_ _ | refine zj ?_ | refine ze ?_ _)); refine zq ?_ zP.out _; (with_reducible repeat (first | refine zf ?_ _ | refine zj ?_ | refine ze ?_ _)); refine zq ?_ zP.out _; (with_reducible repeat (first | refine zf ?_ _ | refine zj ?_ | refine ze ?_ _)); exact zD.out) hb); have n7_ := Aside0.mk (zp (g := zE) (o := .cells #[.int .i64 t387, .slice Ao123 t388.length co123, .bool t391, .string t392, .slice Ao124 t393.length co124] 66 (0, 0)) (bfin (by (repeat (first | (with_reducible first | refine zf ?_ _ | refine zj ?_ | refine ze ?_ _) | apply zA)); exact zC.out) (by rfl)) hb); have n8_ := Aside0.mk (zm (by repeat (first | (with_reducible first | exact HB.out | apply zh | apply zd | apply zi | refine zl ?_ zU.out | refine zl ?_ zcb.out) | exact HB.out)) hb); clear zL; clear zM; clear zN; clear zO; clear zQ; clear zR; clear zD; clear zC; clear HB; have zL := n0_; have zM := n1_; have zN := n2_; have zO := n3_; have zQ := n4_; have zR := n5_; have zD := n6_; have zC := n7_; have HB := n8_; clear n0_ n1_ n2_ n3_ n4_ n5_ n6_ n7_ n8_; (try clear hb); (try clear hb2); (try clear hk); (try clear hi); (try clear y0_ y1_ y2_ y3_)))
   go_ret
   exact ⟨by first | rfl | (simp [*] <;> rfl), by repeat (first | (with_reducible first | exact HB.out | apply zh | apply zd | apply zi | refine zl ?_ zU.out | refine zl ?_ zcb.out) | exact HB.out)⟩

/-- THE ONE PURE STATEMENT of laws_FnExactParseLine. -/
def laws_FnExactParseLine.Pure : Prop := ∀ (l0 : List Int), (l0.length ≤ maxLen ∧ ∀ z0_ ∈ l0, (Lit.int .u8 z0_).wf = true) → ∃ k, laws_FnExactParseLine.f k l0 = some true

end Go.Proofs.YtfiojiokmkiflaaDoor.GFnExactParseLine
