/- Written by give.py, a program of this session, that runs the kit's print and lays contracts proved by hand beside it. -/
import Derived.Test.YtjoafknckmoojaaDoorGFnExactDecodeTreex0
import Derived.Test.YtjoafknckmoojaaDoorGFnExactDecodeTreex3
namespace Go.Proofs.YtjoafknckmoojaaDoor.GFnExactDecodeTree
open Go.RowKit Go.Proofs.YtjoafknckmoojaaDoorW.PrintWords Go.Proofs.YtjoafknckmoojaaDoorW.PrintLast Go.Proofs.YtjoafknckmoojaaDoorW.PrintMore
attribute [local go_sem] max2_int min2_int max_two min_two max_three min_three max_four min_four
attribute [local go_sem high] Go.Proofs.YtjoafknckmoojaaDoorH.str_leq Go.Proofs.YtjoafknckmoojaaDoorH.str_geq Go.Proofs.YtjoafknckmoojaaDoorH.str_gtr
set_option linter.unusedVariables false
set_option linter.unusedSimpArgs false

def spec_ValidTree.f (k : Nat) (l0_0 : List (S92)) : Option (Bool) := if (l0_0.length : Int) ≤ 1000 then ((spec_l3Sorted.f k l0_0).bind fun t130 => (some t130)) else (some false)
theorem spec_ValidTree.mono : ∀ a0 k, LeO (spec_ValidTree.f k a0) (spec_ValidTree.f (k + 1) a0) := by
 intro a0 k
 unfold spec_ValidTree.f
 repeat' first
   | (with_reducible exact spec_l3Sorted.mono _ _)
   | (with_reducible exact LeO.refl _)
   | (with_reducible exact LeO.none _)
   | (with_reducible refine LeO.ite ?_ ?_)
   | (with_reducible refine LeO.bind ?_ (fun _ => ?_))
   | exact spec_l3Sorted.mono _ _
   | exact LeO.none _
   | refine LeO.ite ?_ ?_
   | refine LeO.bind ?_ (fun _ => ?_)
set_option maxHeartbeats 8000000 in
set_option maxRecDepth 100000 in
theorem spec_ValidTree.calls (k : Nat) (A0_0 : Option Addr) (c0_0 : Nat) (l0_0 : List (S92)) (r : Bool) (w : World) (hr0_0 : Kd.C k92 w A0_0 l0_0.length l0_0) (hc0_0 : l0_0.length ≤ c0_0) (h : spec_ValidTree.f k l0_0 = some r) :
  Calls Tryd.prog 41 #[.agg #[.slice A0_0 l0_0.length c0_0]] w fun e w' => e = .returned (.bool r) ∧ Below w.heap.size w w' := by
 have hu25 := Tryd.underlying25
 have HR0_0 := Aside0.mk hr0_0
 have HC0_0 := Aside0.mk hc0_0
 clear hr0_0 hc0_0
 have HB := Aside0.mk (Below.refl w.heap.size w)
 have H : (if (l0_0.length : Int) ≤ 1000 then ((spec_l3Sorted.f k l0_0).bind fun t130 => (some t130)) else (some false)) = some r := h
 clear h
 by_cases c2 : (l0_0.length : Int) ≤ 1000
 ·rw [if_pos c2] at H
  have c2b0 : decide ((l0_0.length : Int) ≤ 1000) = true := decide_eq_true c2
  have c2b1 : decide (l0_0.length ≤ 1000) = true := decide_eq_true (by omega)
  clear c2
  replace H := Option.bind_eq_some_iff.mp H
  obtain ⟨t130, A30, H⟩ := H
  replace H : (some t130) = some r := H
  have A3 := Aside0.mk A30
  clear A30
  obtain rfl := Option.some.inj H
  go_enter Tryd.func41, Tryd.ntmps41
  go_wp2_with (first | ((with_reducible refine zv (N := 1) rfl ?_); refine zw ?hg (N := 1) ?hd (cs := #[.slice A0_0 l0_0.length c0_0]) (t := 25) ?hr ?_; (case hd => rfl); (case hg => rfl); (case hr => first | (go_simp; done) | (go_simp; rfl)); intro zB hg w4 hbox hb; have n0_ := Aside0.mk (zl (by repeat (first | (with_reducible first | exact HB.out | apply ze | apply zc | apply zd) | exact HB.out)) hb); have n1_ := Aside0.mk (hbox); have n2_ := Aside0.mk ((by rw [hg]; exact (zm (by repeat (first | (with_reducible first | exact HB.out | apply ze | apply zc | apply zd) | exact HB.out))) : w.heap.size ≤ zB)); have n3_ := Aside0.mk ((by rw [hg]; exact (zm (by repeat (first | (with_reducible first | exact HB.out | apply ze | apply zc | apply zd) | exact HB.out))) : w.heap.size ≤ zB)); clear HB; have HB := n0_; have zC := n1_; have GW129 := n2_; have zD := n3_; clear n0_ n1_ n2_ n3_; clear hb hbox hg; have zE : w4.cell? ⟨zB, 0, none⟩ = some (.slice A0_0 l0_0.length c0_0) := (zg zC.out 0).trans rfl; have zF := zf zC.out 0) | (go_at_call 105; (with_reducible refine (spec_l3Sorted.calls k _ _ l0_0 t130 _ ?side1 ?side2 A3.out).mono ?_); (case side1 => repeat (first | exact (Kd.C_below HR0_0.out HB.out) | (with_reducible refine Kd.C_alloc ?_ _) | (with_reducible refine Kd.C_drewN ?_ _) | (with_reducible refine Kd.C_drew ?_))); (case side2 => exact HC0_0.out); rintro e w6 ⟨rfl, hb⟩; have n0_ := Aside0.mk (zt (g := zB) (o := .cells #[.slice A0_0 l0_0.length c0_0] 25 (0, 0)) (by (with_reducible repeat (first | refine zi ?_ _ | refine zk ?_ | refine zh ?_ _)); exact zC.out) hb); have n1_ := Aside0.mk (zl (by repeat (first | (with_reducible first | exact HB.out | apply ze | apply zc | apply zd | refine zj ?_ zD.out) | exact HB.out)) hb); clear zC; clear HB; have zC := n0_; have HB := n1_; clear n0_ n1_; (try clear hb); (try clear hb2); (try clear hk); (try clear hi)))
  go_ret
  exact ⟨by first | rfl | (simp [errW_none, errW_some] <;> rfl) | (simp [*, errW_none, errW_some] <;> rfl), by repeat (first | (with_reducible first | exact HB.out | apply ze | apply zc | apply zd | refine zj ?_ zD.out) | exact HB.out)⟩
 ·rw [if_neg c2] at H
  have c2b0 : decide ((l0_0.length : Int) ≤ 1000) = false := decide_eq_false c2
  have c2b1 : decide (l0_0.length ≤ 1000) = false := decide_eq_false (by omega)
  clear c2
  obtain rfl := Option.some.inj H
  go_enter Tryd.func41, Tryd.ntmps41
  go_wp2_with (first | ((with_reducible refine zv (N := 1) rfl ?_); refine zw ?hg (N := 1) ?hd (cs := #[.slice A0_0 l0_0.length c0_0]) (t := 25) ?hr ?_; (case hd => rfl); (case hg => rfl); (case hr => first | (go_simp; done) | (go_simp; rfl)); intro zB hg w7 hbox hb; have n0_ := Aside0.mk (zl (by repeat (first | (with_reducible first | exact HB.out | apply ze | apply zc | apply zd) | exact HB.out)) hb); have n1_ := Aside0.mk (hbox); have n2_ := Aside0.mk ((by rw [hg]; exact (zm (by repeat (first | (with_reducible first | exact HB.out | apply ze | apply zc | apply zd) | exact HB.out))) : w.heap.size ≤ zB)); have n3_ := Aside0.mk ((by rw [hg]; exact (zm (by repeat (first | (with_reducible first | exact HB.out | apply ze | apply zc | apply zd) | exact HB.out))) : w.heap.size ≤ zB)); clear HB; have HB := n0_; have zC := n1_; have GW129 := n2_; have zD := n3_; clear n0_ n1_ n2_ n3_; clear hb hbox hg; have zG : w7.cell? ⟨zB, 0, none⟩ = some (.slice A0_0 l0_0.length c0_0) := (zg zC.out 0).trans rfl; have zH := zf zC.out 0))
  go_ret
  exact ⟨by first | rfl | (simp [errW_none, errW_some] <;> rfl) | (simp [*, errW_none, errW_some] <;> rfl), by repeat (first | (with_reducible first | exact HB.out | apply ze | apply zc | apply zd | refine zj ?_ zD.out) | exact HB.out)⟩

def spec_l4Number.l0 : Nat → List Int → Int → Int → Option (Int)
 | 0, _, _, _ => none
 | k + 1, x0, x3, x4 => if x4 < (x0.length : Int) then (if 0 ≤ x4 then (spec_l4Number.l0 k x0 (wrap64 ((wrap64 (x3 * 256)) + (wrap64 (rd x0 x4)))) (wrap64 (x4 + 1))) else (none)) else (some x3)
def spec_l4Number.f (k : Nat) (l0 : List Int) : Option (Int) := spec_l4Number.l0 k l0 0 0
theorem spec_l4Number.mono_l : ∀ k, (∀ y0 y1 y2, LeO (spec_l4Number.l0 k y0 y1 y2) (spec_l4Number.l0 (k + 1) y0 y1 y2))
 | 0 => fun _ _ _ r h => by simp [spec_l4Number.l0] at h
 | k + 1 => by
  have ih0 := spec_l4Number.mono_l k
  ·intro y0 y1 y2
   unfold spec_l4Number.l0
   repeat' first
   | (with_reducible exact ih0 _ _ _)
   | (with_reducible exact LeO.refl _)
   | (with_reducible exact LeO.none _)
   | (with_reducible refine LeO.ite ?_ ?_)
   | (with_reducible refine LeO.bind ?_ (fun _ => ?_))
   | exact ih0 _ _ _
   | exact LeO.none _
   | refine LeO.ite ?_ ?_
   | refine LeO.bind ?_ (fun _ => ?_)
theorem spec_l4Number.mono : ∀ a0 k, LeO (spec_l4Number.f k a0) (spec_l4Number.f (k + 1) a0) := by
 intro a0 k
 have ih0 := spec_l4Number.mono_l k
 unfold spec_l4Number.f
 repeat' first
   | (with_reducible exact ih0 _ _ _)
   | (with_reducible exact LeO.refl _)
   | (with_reducible exact LeO.none _)
   | (with_reducible refine LeO.ite ?_ ?_)
   | (with_reducible refine LeO.bind ?_ (fun _ => ?_))
   | exact ih0 _ _ _
   | exact LeO.none _
   | refine LeO.ite ?_ ?_
   | refine LeO.bind ?_ (fun _ => ?_)
set_option maxHeartbeats 8000000 in
set_option maxRecDepth 100000 in
theorem spec_l4Number.calls (k : Nat) (A0 : Option Addr) (c0 : Nat) (l0 : List Int) (r : Int) (w : World) (hr0 : Kd.C (Kd.int .u8) w A0 l0.length l0) (hc0 : l0.length ≤ c0) (h : spec_l4Number.f k l0 = some r) :
  Calls Tryd.prog 65 #[.slice A0 l0.length c0] w fun e w' => e = .returned (.int .i64 r) ∧ Drawn0 w w' := by
 have HR0 := Aside0.mk hr0
 have HC0 := Aside0.mk hc0
 clear hr0 hc0
 have H : (spec_l4Number.l0 k l0 0 0) = some r := h
 clear h
 have H' := Aside0.mk H
 clear H
 go_enter Tryd.func65, Tryd.ntmps65
 go_wp2
 go_loopg [3, 4] k (fun kq v3 v4 w' => ∃ (x3_1 : Int) (x4_1 : Int), v3 = .int .i64 x3_1 ∧ v4 = .int .i64 x4_1 ∧ Aside0 (spec_l4Number.l0 kq l0 x3_1 x4_1 = some r) ∧ Aside0 (kq ≤ k) ∧ Drawn0 w w')
 case atStart => exact ⟨(0), (0), (by first | rfl | (simp; done) | (simp [*]; done)), (by first | rfl | (simp; done) | (simp [*]; done)), H', ⟨Nat.le_refl _⟩, by repeat (first | exact Drawn0.refl _ | apply Drawn0.step)⟩
 case round =>
  clear H'
  obtain ⟨x3_1, x4_1, rfl, rfl, HA, HK1, ⟨m1, rfl⟩⟩ := hrel
  cases gk with
  | zero => exact absurd HA.out (by simp [spec_l4Number.l0])
  | succ k1 =>
   have H := HA.out
   clear HA
   simp only [spec_l4Number.l0] at H
   by_cases c2 : x4_1 < (l0.length : Int)
   ·rw [if_pos c2] at H
    have c2b0 : decide (x4_1 < (l0.length : Int)) = true := decide_eq_true c2
    clear c2
    by_cases c3 : 0 ≤ x4_1
    ·rw [if_pos c3] at H
     have c3b0 : decide (0 ≤ x4_1) = true := decide_eq_true c3
     clear c3
     have H' := Aside0.mk H
     clear H
     have p131 : 0 ≤ (x4_1 : Int) := of_decide_eq_true (by first | (with_reducible assumption) | assumption)
     have q131 : x4_1 < (l0.length : Int) := of_decide_eq_true (by first | (with_reducible assumption) | assumption)
     obtain ⟨ad131, e131, hx131_0⟩ := Kd.at_int HR0.out x4_1 p131 q131
     cases e131
     replace p131 := eq_true p131
     replace q131 := eq_true q131
     go_wp2
     go_roundg k1
     case measure => have := HK1.out; omega
     case rel => exact ⟨(wrap64 ((wrap64 (x3_1 * 256)) + (wrap64 (rd l0 x4_1)))), (wrap64 (x4_1 + 1)), (by first | rfl | (simp; done) | (simp [*]; done)), (by first | rfl | (simp; done) | (simp [*]; done)), H', ⟨by have := HK1.out; omega⟩, by repeat (first | exact Drawn0.refl _ | apply Drawn0.step)⟩
    ·rw [if_neg c3] at H
     exact absurd H (by simp)
   ·rw [if_neg c2] at H
    have c2b0 : decide (x4_1 < (l0.length : Int)) = false := decide_eq_false c2
    clear c2
    obtain rfl := Option.some.inj H
    go_wp2
    go_ret
    exact ⟨by first | rfl | (simp; done) | (simp [*]; done), by repeat (first | exact Drawn0.refl _ | apply Drawn0.step)⟩

def spec_l4ReadText.f (l0 : List Int) (a1 : Int) : Option (ByteArray × Int) := if a1 < 0 then (some ((⟨#[]⟩ : ByteArray), (-1))) else (if a1 ≥ (l0.length : Int) then (some ((⟨#[]⟩ : ByteArray), (-1))) else (if 0 ≤ a1 then (if a1 < (l0.length : Int) then (if (wrap64 ((wrap64 (a1 + 1)) + (wrap64 (rd l0 a1)))) > (l0.length : Int) then (some ((⟨#[]⟩ : ByteArray), (-1))) else (if 0 ≤ (wrap64 (a1 + 1)) then (if (wrap64 (a1 + 1)) ≤ (wrap64 ((wrap64 (a1 + 1)) + (wrap64 (rd l0 a1)))) then (if (wrap64 ((wrap64 (a1 + 1)) + (wrap64 (rd l0 a1)))) ≤ (l0.length : Int) then (some (strOfNums ((l0.take ((wrap64 ((wrap64 (a1 + 1)) + (wrap64 (rd l0 a1)))) : Int).toNat).drop ((wrap64 (a1 + 1)) : Int).toNat), wrap64 ((wrap64 (a1 + 1)) + (wrap64 (rd l0 a1))))) else (none)) else (none)) else (none))) else (none)) else (none)))
set_option maxHeartbeats 8000000 in
set_option maxRecDepth 100000 in
theorem spec_l4ReadText.calls (A0 : Option Addr) (c0 : Nat) (l0 : List Int) (a1 : Int) (r1 : ByteArray) (r2 : Int) (w : World) (hr0 : Kd.C (Kd.int .u8) w A0 l0.length l0) (hc0 : l0.length ≤ c0) (h : spec_l4ReadText.f l0 a1 = some (r1, r2)) :
  Calls Tryd.prog 66 #[.slice A0 l0.length c0, .int .i64 a1] w fun e w' => e = .returned (.tuple #[.string r1, .int .i64 r2]) ∧ Drawn0 w w' := by
 have HR0 := Aside0.mk hr0
 have HC0 := Aside0.mk hc0
 clear hr0 hc0
 have H : (if a1 < 0 then (some ((⟨#[]⟩ : ByteArray), (-1))) else (if a1 ≥ (l0.length : Int) then (some ((⟨#[]⟩ : ByteArray), (-1))) else (if 0 ≤ a1 then (if a1 < (l0.length : Int) then (if (wrap64 ((wrap64 (a1 + 1)) + (wrap64 (rd l0 a1)))) > (l0.length : Int) then (some ((⟨#[]⟩ : ByteArray), (-1))) else (if 0 ≤ (wrap64 (a1 + 1)) then (if (wrap64 (a1 + 1)) ≤ (wrap64 ((wrap64 (a1 + 1)) + (wrap64 (rd l0 a1)))) then (if (wrap64 ((wrap64 (a1 + 1)) + (wrap64 (rd l0 a1)))) ≤ (l0.length : Int) then (some (strOfNums ((l0.take ((wrap64 ((wrap64 (a1 + 1)) + (wrap64 (rd l0 a1)))) : Int).toNat).drop ((wrap64 (a1 + 1)) : Int).toNat), wrap64 ((wrap64 (a1 + 1)) + (wrap64 (rd l0 a1))))) else (none)) else (none)) else (none))) else (none)) else (none)))) = some (r1, r2) := h
 clear h
 by_cases c3 : a1 < 0
 ·rw [if_pos c3] at H
  have c3b0 : decide (a1 < 0) = true := decide_eq_true c3
  clear c3
  simp only [Option.some.injEq, Prod.mk.injEq] at H
  obtain ⟨rfl, rfl⟩ := H
  go_enter Tryd.func66, Tryd.ntmps66
  go_wp2
  go_ret2
  exact ⟨by first | rfl | (simp; done) | (simp [*]; done), by repeat (first | exact Drawn0.refl _ | apply Drawn0.step)⟩
 ·rw [if_neg c3] at H
  have c3b0 : decide (a1 < 0) = false := decide_eq_false c3
  clear c3
  by_cases c4 : a1 ≥ (l0.length : Int)
  ·rw [if_pos c4] at H
   have c4b0 : decide ((l0.length : Int) ≤ a1) = true := decide_eq_true c4
   clear c4
   simp only [Option.some.injEq, Prod.mk.injEq] at H
   obtain ⟨rfl, rfl⟩ := H
   go_enter Tryd.func66, Tryd.ntmps66
   go_wp2
   go_ret2
   exact ⟨by first | rfl | (simp; done) | (simp [*]; done), by repeat (first | exact Drawn0.refl _ | apply Drawn0.step)⟩
  ·rw [if_neg c4] at H
   have c4b0 : decide ((l0.length : Int) ≤ a1) = false := decide_eq_false c4
   clear c4
   by_cases c5 : 0 ≤ a1
   ·rw [if_pos c5] at H
    have c5b0 : decide (0 ≤ a1) = true := decide_eq_true c5
    clear c5
    by_cases c6 : a1 < (l0.length : Int)
    ·rw [if_pos c6] at H
     have c6b0 : decide (a1 < (l0.length : Int)) = true := decide_eq_true c6
     clear c6
     by_cases c7 : (wrap64 ((wrap64 (a1 + 1)) + (wrap64 (rd l0 a1)))) > (l0.length : Int)
     ·rw [if_pos c7] at H
      have c7b0 : decide ((l0.length : Int) < (wrap64 ((wrap64 (a1 + 1)) + (wrap64 (rd l0 a1))))) = true := decide_eq_true c7
      clear c7
      simp only [Option.some.injEq, Prod.mk.injEq] at H
      obtain ⟨rfl, rfl⟩ := H
      have p132 : 0 ≤ (a1 : Int) := of_decide_eq_true (by first | (with_reducible assumption) | assumption)
      have q132 : a1 < (l0.length : Int) := of_decide_eq_true (by first | (with_reducible assumption) | assumption)
      obtain ⟨ad132, e132, hx132_0⟩ := Kd.at_int HR0.out a1 p132 q132
      cases e132
      replace p132 := eq_true p132
      replace q132 := eq_true q132
      go_enter Tryd.func66, Tryd.ntmps66
      go_wp2
      go_ret2
      exact ⟨by first | rfl | (simp; done) | (simp [*]; done), by repeat (first | exact Drawn0.refl _ | apply Drawn0.step)⟩
     ·rw [if_neg c7] at H
      have c7b0 : decide ((l0.length : Int) < (wrap64 ((wrap64 (a1 + 1)) + (wrap64 (rd l0 a1))))) = false := decide_eq_false c7
      clear c7
      obtain ⟨ji8, hji8⟩ : ∃ j_ : Int, (wrap64 (a1 + 1)) = j_ := ⟨_, rfl⟩
      replace H : (if 0 ≤ (ji8) then (if (ji8) ≤ (wrap64 ((ji8) + (wrap64 (rd l0 a1)))) then (if (wrap64 ((ji8) + (wrap64 (rd l0 a1)))) ≤ (l0.length : Int) then (some (strOfNums ((l0.take ((wrap64 ((ji8) + (wrap64 (rd l0 a1)))) : Int).toNat).drop ((ji8) : Int).toNat), wrap64 ((ji8) + (wrap64 (rd l0 a1))))) else (none)) else (none)) else (none)) = some (r1, r2) := by first | (rw [hji8] at H; exact H) | (simp only [hji8] at H ⊢; exact H)
      (try rw [hji8] at c7b0)
      have hji8w : (IntKind.i64.wrap (a1 + 1)) = ji8 := (zo _).trans hji8
      by_cases c9 : 0 ≤ (ji8)
      ·rw [if_pos c9] at H
       have c9b0 := eq_true c9
       have c9b1 : decide (0 ≤ (ji8)) = true := decide_eq_true c9
       clear c9
       by_cases c10 : (ji8) ≤ (wrap64 ((ji8) + (wrap64 (rd l0 a1))))
       ·rw [if_pos c10] at H
        have c10b0 := eq_true c10
        have c10b1 : decide ((ji8) ≤ (wrap64 ((ji8) + (wrap64 (rd l0 a1))))) = true := decide_eq_true c10
        by_cases c11 : (wrap64 ((ji8) + (wrap64 (rd l0 a1)))) ≤ (l0.length : Int)
        ·rw [if_pos c11] at H
         have c11b0 := eq_true c11
         have c11b1 : decide ((wrap64 ((ji8) + (wrap64 (rd l0 a1)))) ≤ (l0.length : Int)) = true := decide_eq_true c11
         simp only [Option.some.injEq, Prod.mk.injEq] at H
         obtain ⟨rfl, rfl⟩ := H
         have p132 : 0 ≤ (a1 : Int) := of_decide_eq_true (by first | (with_reducible assumption) | assumption)
         have q132 : a1 < (l0.length : Int) := of_decide_eq_true (by first | (with_reducible assumption) | assumption)
         obtain ⟨ad132, e132, hx132_0⟩ := Kd.at_int HR0.out a1 p132 q132
         cases e132
         replace p132 := eq_true p132
         replace q132 := eq_true q132
         have p133 : 0 ≤ (a1 : Int) := of_decide_eq_true (by first | (with_reducible assumption) | assumption)
         have q133 : a1 < (l0.length : Int) := of_decide_eq_true (by first | (with_reducible assumption) | assumption)
         obtain ⟨ad133, e133, hx133_0⟩ := Kd.at_int HR0.out a1 p133 q133
         obtain rfl : ad132 = ad133 := (by injection e133)
         replace p133 := eq_true p133
         replace q133 := eq_true q133
         obtain ⟨i012, hi012, _, hsz12, _⟩ := info_parts info5
         obtain ⟨A12, hcut12, hA12, hC12⟩ := print_mid_of (P := Tryd.prog) (Value.int .u8) 0 22 5 .i64 .i64 Tryd.underlying22 hi012 hsz12 (some ad132) c0 l0 (ji8) (wrap64 ((ji8) + (wrap64 (rd l0 a1)))) (of_decide_eq_true (by first | (with_reducible assumption) | assumption)) (by first | omega | exact of_decide_eq_true (by first | (with_reducible assumption) | assumption)) (of_decide_eq_true (by first | (with_reducible assumption) | assumption)) HC0.out
         have HR134 := Aside0.mk (Kd.C_of_reads (h1 := fun _ => rfl) (hA12 _ (Kd.reads_of_C HR0.out)))
         have HC134 := Aside0.mk hC12
         clear hA12 hC12 hi012 hsz12
         have hcv13 := Kd.C_string (P := Tryd.prog) (A := A12) (c := (c0 - (ji8).toNat)) Tryd.underlying22 Tryd.underlying5 Tryd.underlying9 HR134.out
         have hl_ : (List.drop (ji8 : Int).toNat (List.take ((wrap64 ((ji8) + (wrap64 (rd l0 a1)))) : Int).toNat l0)).length = ((wrap64 ((ji8) + (wrap64 (rd l0 a1)))) : Int).toNat - (ji8 : Int).toNat := by rw [List.length_drop, List.length_take]; have h_ : (wrap64 ((ji8) + (wrap64 (rd l0 a1)))) ≤ (l0.length : Int) := of_decide_eq_true (by first | (with_reducible assumption) | assumption); omega
         rw [hl_] at hcv13
         clear hl_
         go_enter Tryd.func66, Tryd.ntmps66
         go_wp2
         go_ret2
         exact ⟨by first | rfl | (simp; done) | (simp only [← hji8] <;> (first | rfl | simp)) | (simp [*]; done), by repeat (first | exact Drawn0.refl _ | apply Drawn0.step)⟩
        ·rw [if_neg c11] at H
         exact absurd H (by simp)
       ·rw [if_neg c10] at H
        exact absurd H (by simp)
      ·rw [if_neg c9] at H
       exact absurd H (by simp)
    ·rw [if_neg c6] at H
     exact absurd H (by simp)
   ·rw [if_neg c5] at H
    exact absurd H (by simp)

mutual
def spec_l4ReadNode.j0 : Nat → List Int → ByteArray → ByteArray → Int → Bool → Option (ByteArray × ByteArray × Int × Int × Int × Int × Int × Int)
 | 0, _, _, _, _, _ => none
 | k + 1, x0, x6, x8, x9, x32 => if x32 = true then (some ((⟨#[]⟩ : ByteArray), (⟨#[]⟩ : ByteArray), 0, 0, 0, 0, 0, (-1))) else (spec_l4ReadNode.l0 k x0 x6 x8 x9 (([] : List Int)) 0)
def spec_l4ReadNode.l0 : Nat → List Int → ByteArray → ByteArray → Int → List Int → Int → Option (ByteArray × ByteArray × Int × Int × Int × Int × Int × Int)
 | 0, _, _, _, _, _, _ => none
 | k + 1, x0, x6, x8, x9, x10, x11 => if x11 < 5 then (if 0 ≤ (wrap64 (x9 + (wrap64 (4 * x11)))) then (if (wrap64 (x9 + (wrap64 (4 * x11)))) ≤ (wrap64 ((wrap64 (x9 + (wrap64 (4 * x11)))) + 4)) then (if (wrap64 ((wrap64 (x9 + (wrap64 (4 * x11)))) + 4)) ≤ (x0.length : Int) then ((spec_l4Number.f k ((x0.take ((wrap64 ((wrap64 (x9 + (wrap64 (4 * x11)))) + 4)) : Int).toNat).drop ((wrap64 (x9 + (wrap64 (4 * x11)))) : Int).toNat)).bind fun t144 => (if x10.length < 17592186044416 then (spec_l4ReadNode.l0 k x0 x6 x8 x9 (x10 ++ [t144]) (wrap64 (x11 + 1))) else (none))) else (none)) else (none)) else (none)) else (if 0 < (x10.length : Int) then (if 1 < (x10.length : Int) then (if 2 < (x10.length : Int) then (if 3 < (x10.length : Int) then (if 4 < (x10.length : Int) then (some (x6, x8, rd x10 0, rd x10 1, rd x10 2, rd x10 3, rd x10 4, wrap64 (x9 + 20))) else (none)) else (none)) else (none)) else (none)) else (none))
end
def spec_l4ReadNode.f (k : Nat) (l0 : List Int) (a1 : Int) : Option (ByteArray × ByteArray × Int × Int × Int × Int × Int × Int) := (spec_l4ReadText.f l0 a1).bind fun bt136 => ((spec_l4ReadText.f l0 bt136.2).bind fun bt138 => (if bt138.2 < 0 then (spec_l4ReadNode.j0 k l0 bt136.1 bt138.1 bt138.2 true) else (spec_l4ReadNode.j0 k l0 bt136.1 bt138.1 bt138.2 (decide ((wrap64 (bt138.2 + 20)) > (l0.length : Int))))))
theorem spec_l4ReadNode.mono_l : ∀ k, (∀ y0 y1 y2 y3 y4, LeO (spec_l4ReadNode.j0 k y0 y1 y2 y3 y4) (spec_l4ReadNode.j0 (k + 1) y0 y1 y2 y3 y4)) ∧ (∀ y0 y1 y2 y3 y4 y5, LeO (spec_l4ReadNode.l0 k y0 y1 y2 y3 y4 y5) (spec_l4ReadNode.l0 (k + 1) y0 y1 y2 y3 y4 y5))
 | 0 => ⟨fun _ _ _ _ _ r h => by simp [spec_l4ReadNode.j0] at h, fun _ _ _ _ _ _ r h => by simp [spec_l4ReadNode.l0] at h⟩
 | k + 1 => by
  obtain ⟨ih0, ih1⟩ := spec_l4ReadNode.mono_l k
  refine ⟨?_, ?_⟩
  ·intro y0 y1 y2 y3 y4
   unfold spec_l4ReadNode.j0
   repeat' first
   | (with_reducible exact ih0 _ _ _ _ _)
   | (with_reducible exact ih1 _ _ _ _ _ _)
   | (with_reducible exact spec_l4Number.mono _ _)
   | (with_reducible exact LeO.refl _)
   | (with_reducible exact LeO.none _)
   | (with_reducible refine LeO.ite ?_ ?_)
   | (with_reducible refine LeO.bind ?_ (fun _ => ?_))
   | exact ih0 _ _ _ _ _
   | exact ih1 _ _ _ _ _ _
   | exact spec_l4Number.mono _ _
   | exact LeO.none _
   | refine LeO.ite ?_ ?_
   | refine LeO.bind ?_ (fun _ => ?_)
  ·intro y0 y1 y2 y3 y4 y5
   unfold spec_l4ReadNode.l0
   repeat' first
   | (with_reducible exact ih0 _ _ _ _ _)
   | (with_reducible exact ih1 _ _ _ _ _ _)
   | (with_reducible exact spec_l4Number.mono _ _)
   | (with_reducible exact LeO.refl _)
   | (with_reducible exact LeO.none _)
   | (with_reducible refine LeO.ite ?_ ?_)
   | (with_reducible refine LeO.bind ?_ (fun _ => ?_))
   | exact ih0 _ _ _ _ _
   | exact ih1 _ _ _ _ _ _
   | exact spec_l4Number.mono _ _
   | exact LeO.none _
   | refine LeO.ite ?_ ?_
   | refine LeO.bind ?_ (fun _ => ?_)
theorem spec_l4ReadNode.mono : ∀ a0 a1 k, LeO (spec_l4ReadNode.f k a0 a1) (spec_l4ReadNode.f (k + 1) a0 a1) := by
 intro a0 a1 k
 obtain ⟨ih0, ih1⟩ := spec_l4ReadNode.mono_l k
 unfold spec_l4ReadNode.f
 repeat' first
   | (with_reducible exact ih0 _ _ _ _ _)
   | (with_reducible exact ih1 _ _ _ _ _ _)
   | (with_reducible exact spec_l4Number.mono _ _)
   | (with_reducible exact LeO.refl _)
   | (with_reducible exact LeO.none _)
   | (with_reducible refine LeO.ite ?_ ?_)
   | (with_reducible refine LeO.bind ?_ (fun _ => ?_))
   | exact ih0 _ _ _ _ _
   | exact ih1 _ _ _ _ _ _
   | exact spec_l4Number.mono _ _
   | exact LeO.none _
   | refine LeO.ite ?_ ?_
   | refine LeO.bind ?_ (fun _ => ?_)
def spec_l4ReadNode.T10 : Bool × List (List Nat × List Nat) := (true, [([], []), ([], []), ([], []), ([2], [2]), ([3], [3]), ([], []), ([5], [5]), ([6], [6]), ([], []), ([8], [8]), ([9], [9]), ([], []), ([11], [11]), ([12], [12]), ([], []), ([14], [14]), ([15], [15]), ([0, 1, 4, 7, 10, 13, 16], [0, 1, 4, 7, 10, 13, 16]), ([], []), ([18], [18]), ([17, 0, 1, 2, 3, 4, 5, 6, 7, 8, 9, 10, 11, 12, 13, 14, 15, 16, 17], [17]), ([19, 20, 0, 1, 2, 3, 4, 5, 6, 7, 8, 9, 10, 11, 12, 13, 14, 15, 16, 17, 18, 19, 20], [19])])
def spec_l4ReadNode.B10 : List Nat := [0, 0, 0, 4, 12, 0, 32, 96, 0, 256, 768, 0, 2048, 6144, 0, 16384, 49152, 131071, 0, 262144, 262143, 2097151]
theorem spec_l4ReadNode.tab10 : rtab .any (opsOf Tryd.f61 10) = spec_l4ReadNode.T10 := by kernel_rfl
theorem spec_l4ReadNode.bits10 : waitsOk spec_l4ReadNode.T10.2 spec_l4ReadNode.B10 = true := by kernel_rfl
set_option maxHeartbeats 8000000 in
set_option maxRecDepth 100000 in
theorem spec_l4ReadNode.calls (k : Nat) (A0 : Option Addr) (c0 : Nat) (l0 : List Int) (a1 : Int) (r1 : ByteArray) (r2 : ByteArray) (r3 : Int) (r4 : Int) (r5 : Int) (r6 : Int) (r7 : Int) (r8 : Int) (w : World) (hr0 : Kd.C (Kd.int .u8) w A0 l0.length l0) (hc0 : l0.length ≤ c0) (h : spec_l4ReadNode.f k l0 a1 = some (r1, r2, r3, r4, r5, r6, r7, r8)) :
  Calls Tryd.prog 61 #[.slice A0 l0.length c0, .int .i64 a1] w fun e w' => e = .returned (.tuple #[.agg #[.string r1, .string r2, .int .i64 r3, .int .i64 r4, .int .i64 r5, .int .i64 r6, .int .i64 r7], .int .i64 r8]) ∧ Below w.heap.size w w' := by
 have hu92 := Tryd.underlying92
 have HR0 := Aside0.mk hr0
 have HC0 := Aside0.mk hc0
 clear hr0 hc0
 have HB := Aside0.mk (Below.refl w.heap.size w)
 have H : ((spec_l4ReadText.f l0 a1).bind fun bt136 => ((spec_l4ReadText.f l0 bt136.2).bind fun bt138 => (if bt138.2 < 0 then (spec_l4ReadNode.j0 k l0 bt136.1 bt138.1 bt138.2 true) else (spec_l4ReadNode.j0 k l0 bt136.1 bt138.1 bt138.2 (decide ((wrap64 (bt138.2 + 20)) > (l0.length : Int))))))) = some (r1, r2, r3, r4, r5, r6, r7, r8) := h
 clear h
 replace H := Option.bind_eq_some_iff.mp H
 obtain ⟨⟨t136, t137⟩, A30, H⟩ := H
 replace H : ((spec_l4ReadText.f l0 t137).bind fun bt138 => (if bt138.2 < 0 then (spec_l4ReadNode.j0 k l0 t136 bt138.1 bt138.2 true) else (spec_l4ReadNode.j0 k l0 t136 bt138.1 bt138.2 (decide ((wrap64 (bt138.2 + 20)) > (l0.length : Int)))))) = some (r1, r2, r3, r4, r5, r6, r7, r8) := H
 have A3 := Aside0.mk A30
 clear A30
 replace H := Option.bind_eq_some_iff.mp H
 obtain ⟨⟨t138, t139⟩, A40, H⟩ := H
 replace H : (if t139 < 0 then (spec_l4ReadNode.j0 k l0 t136 t138 t139 true) else (spec_l4ReadNode.j0 k l0 t136 t138 t139 (decide ((wrap64 (t139 + 20)) > (l0.length : Int))))) = some (r1, r2, r3, r4, r5, r6, r7, r8) := H
 have A4 := Aside0.mk A40
 clear A40
 have HC5 := Aside0.mk H
 clear H
 go_enter Tryd.func61, Tryd.ntmps61
 go_upto_region 3 with (first | ((with_reducible refine zv (N := 4) rfl ?_); (try (refine gate_guard (by rfl) ?_; dsimp only)); refine zw ?hg (N := 4) ?hd (cs := #[.string (⟨#[]⟩ : ByteArray), .string (⟨#[]⟩ : ByteArray), .int .i64 0, .int .i64 0, .int .i64 0, .int .i64 0, .int .i64 0]) (t := 92) ?hr ?_; (case hd => rfl); (case hg => rfl); (case hr => first | (go_simp; done) | (go_simp; rfl)); intro zD hg w6 hbox hb; have n0_ := Aside0.mk (zl (by repeat (first | (with_reducible first | exact HB.out | apply ze | apply zc | apply zd) | exact HB.out)) hb); have n1_ := Aside0.mk (hbox); have n2_ := Aside0.mk ((by rw [hg]; exact (zm (by repeat (first | (with_reducible first | exact HB.out | apply ze | apply zc | apply zd) | exact HB.out))) : w.heap.size ≤ zD)); have n3_ := Aside0.mk ((by rw [hg]; exact (zm (by repeat (first | (with_reducible first | exact HB.out | apply ze | apply zc | apply zd) | exact HB.out))) : w.heap.size ≤ zD)); clear HB; have HB := n0_; have zB := n1_; have GW135 := n2_; have zE := n3_; clear n0_ n1_ n2_ n3_; clear hb hbox hg) | ((with_reducible refine zq (f := 66) rfl ?_); refine zz (some 15) rfl rfl Tryd.func66 (by kernel_rfl) rfl #[.slice A0 l0.length c0, .int .i64 a1] rfl (by (try simp only [List.map_toArray, List.map_cons, List.map_nil]); first | done | rfl | (simp only [List.length_drop, List.length_take]; rfl)) ?_; (with_reducible refine (spec_l4ReadText.calls _ _ l0 a1 t136 t137 _ ?side1 ?side2 A3.out).mono ?_); (case side1 => repeat (first | exact (Kd.C_below HR0.out HB.out) | (with_reducible refine Kd.C_alloc ?_ _) | (with_reducible refine Kd.C_drewN ?_ _) | (with_reducible refine Kd.C_drew ?_))); (case side2 => exact HC0.out); rintro e w' ⟨rfl, ⟨nd, rfl⟩⟩; refine ⟨_, rfl, ?_⟩) | ((with_reducible refine zq (f := 66) rfl ?_); refine zz (some 21) rfl rfl Tryd.func66 (by kernel_rfl) rfl #[.slice A0 l0.length c0, .int .i64 t137] rfl (by (try simp only [List.map_toArray, List.map_cons, List.map_nil]); first | done | rfl | (simp only [List.length_drop, List.length_take]; rfl)) ?_; (with_reducible refine (spec_l4ReadText.calls _ _ l0 t137 t138 t139 _ ?side1 ?side2 A4.out).mono ?_); (case side1 => repeat (first | exact (Kd.C_below HR0.out (by repeat (first | (with_reducible first | exact HB.out | apply ze | apply zc | apply zd | refine zj ?_ zE.out) | exact HB.out))) | (with_reducible refine Kd.C_alloc ?_ _) | (with_reducible refine Kd.C_drewN ?_ _) | (with_reducible refine Kd.C_drew ?_))); (case side2 => exact HC0.out); rintro e w' ⟨rfl, ⟨nd, rfl⟩⟩; refine ⟨_, rfl, ?_⟩))
 (try simp only [Act.put, List.setIfInBounds_toArray, List.set_cons_zero, List.set_cons_succ])
 go_cut [32] (fun v32 wc => ∃ (kq : Nat) (x32_4 : Bool), v32 = .bool x32_4 ∧ Aside0 (spec_l4ReadNode.j0 kq l0 t136 t138 t139 x32_4 = some (r1, r2, r3, r4, r5, r6, r7, r8)) ∧ Aside0 (kq ≤ k) ∧ Aside0 (wc.heap[zD]? = some (.cells #[.string (⟨#[]⟩ : ByteArray), .string (⟨#[]⟩ : ByteArray), .int .i64 0, .int .i64 0, .int .i64 0, .int .i64 0, .int .i64 0] 92 (0, 0))) ∧ Aside0 (Below w.heap.size w wc))
 case first =>
  have H := HC5.out
  clear HC5
  by_cases c7 : t139 < 0
  ·rw [if_pos c7] at H
   have c7b0 : decide (t139 < 0) = true := decide_eq_true c7
   clear c7
   (first | rw [c7b0] | (simp only [zo, zp]; rw [c7b0]) | skip)
   have H' := Aside0.mk H
   clear H
   go_wp2
   go_meet
   case rel => exact ⟨_, (true), (by first | rfl | (simp; done) | (simp [*]; done)), H', ⟨by first | omega | exact Nat.le_refl _⟩, ⟨by (with_reducible repeat (first | refine zi ?_ _ | refine zk ?_ | refine zh ?_ _)); exact zB.out⟩, ⟨by repeat (first | (with_reducible first | exact HB.out | apply ze | apply zc | apply zd | refine zj ?_ zE.out) | exact HB.out)⟩⟩
  ·rw [if_neg c7] at H
   have c7b0 : decide (t139 < 0) = false := decide_eq_false c7
   clear c7
   (first | rw [c7b0] | (simp only [zo, zp]; rw [c7b0]) | skip)
   have H' := Aside0.mk H
   clear H
   go_wp2
   go_meet
   case rel => exact ⟨_, (decide ((wrap64 (t139 + 20)) > (l0.length : Int))), (by first | rfl | (simp; done) | (simp [*]; done)), H', ⟨by first | omega | exact Nat.le_refl _⟩, ⟨by (with_reducible repeat (first | refine zi ?_ _ | refine zk ?_ | refine zh ?_ _)); exact zB.out⟩, ⟨by repeat (first | (with_reducible first | exact HB.out | apply ze | apply zc | apply zd | refine zj ?_ zE.out) | exact HB.out)⟩⟩
 case rest =>
  clear HC5
  try clear p2
  try clear c6
  try clear p6
  try clear c7
  try clear c7b0
  obtain ⟨kq, x32_4, rfl, HA, HJ4, zB, HB⟩ := hcut
  cases kq with
  | zero => exact absurd HA.out (by simp [spec_l4ReadNode.j0])
  | succ kj4 =>
   have H := HA.out
   clear HA
   simp only [spec_l4ReadNode.j0] at H
   by_cases c8 : x32_4 = true
   ·subst c8
    have H1 : (some ((⟨#[]⟩ : ByteArray), (⟨#[]⟩ : ByteArray), 0, 0, 0, 0, 0, (-1))) = some (r1, r2, r3, r4, r5, r6, r7, r8) := by rw [if_pos rfl] at H; exact H
    clear H
    have H := H1
    clear H1
    simp only [Option.some.injEq, Prod.mk.injEq] at H
    obtain ⟨rfl, rfl, rfl, rfl, rfl, rfl, rfl, rfl⟩ := H
    have zG : wc.cell? ⟨zD, 0, none⟩ = some (.string (⟨#[]⟩ : ByteArray)) := (zg zB.out 0).trans rfl
    have zH : wc.cell? ⟨zD, 1, none⟩ = some (.string (⟨#[]⟩ : ByteArray)) := (zg zB.out 1).trans rfl
    have zI : wc.cell? ⟨zD, 2, none⟩ = some (.int .i64 0) := (zg zB.out 2).trans rfl
    have zJ : wc.cell? ⟨zD, 3, none⟩ = some (.int .i64 0) := (zg zB.out 3).trans rfl
    have zK : wc.cell? ⟨zD, 4, none⟩ = some (.int .i64 0) := (zg zB.out 4).trans rfl
    have zL : wc.cell? ⟨zD, 5, none⟩ = some (.int .i64 0) := (zg zB.out 5).trans rfl
    have zM : wc.cell? ⟨zD, 6, none⟩ = some (.int .i64 0) := (zg zB.out 6).trans rfl
    have zN := zf zB.out 0
    have zO := zf zB.out 1
    have zP := zf zB.out 2
    have zQ := zf zB.out 3
    have zR := zf zB.out 4
    have zS := zf zB.out 5
    have zT := zf zB.out 6
    go_wp2
    refine bodyPost_ret (results_ct rfl _ _ zD 92 #[.string (⟨#[]⟩ : ByteArray), .string (⟨#[]⟩ : ByteArray), .int .i64 0, .int .i64 0, .int .i64 0, .int .i64 0, .int .i64 0] (0, 0) _ rfl (by (with_reducible repeat (first | refine zi ?_ _ | refine zk ?_ | refine zh ?_ _)); refine zx (cs := #[.string (⟨#[]⟩ : ByteArray), .string (⟨#[]⟩ : ByteArray), .int .i64 0, .int .i64 0, .int .i64 0, .int .i64 0, .int .i64 0]) ?_ 6 _ rfl; (with_reducible repeat (first | refine zi ?_ _ | refine zk ?_ | refine zh ?_ _)); refine zx (cs := #[.string (⟨#[]⟩ : ByteArray), .string (⟨#[]⟩ : ByteArray), .int .i64 0, .int .i64 0, .int .i64 0, .int .i64 0, .int .i64 0]) ?_ 5 _ rfl; (with_reducible repeat (first | refine zi ?_ _ | refine zk ?_ | refine zh ?_ _)); refine zx (cs := #[.string (⟨#[]⟩ : ByteArray), .string (⟨#[]⟩ : ByteArray), .int .i64 0, .int .i64 0, .int .i64 0, .int .i64 0, .int .i64 0]) ?_ 4 _ rfl; (with_reducible repeat (first | refine zi ?_ _ | refine zk ?_ | refine zh ?_ _)); refine zx (cs := #[.string (⟨#[]⟩ : ByteArray), .string (⟨#[]⟩ : ByteArray), .int .i64 0, .int .i64 0, .int .i64 0, .int .i64 0, .int .i64 0]) ?_ 3 _ rfl; (with_reducible repeat (first | refine zi ?_ _ | refine zk ?_ | refine zh ?_ _)); refine zx (cs := #[.string (⟨#[]⟩ : ByteArray), .string (⟨#[]⟩ : ByteArray), .int .i64 0, .int .i64 0, .int .i64 0, .int .i64 0, .int .i64 0]) ?_ 2 _ rfl; (with_reducible repeat (first | refine zi ?_ _ | refine zk ?_ | refine zh ?_ _)); refine zx (cs := #[.string (⟨#[]⟩ : ByteArray), .string (⟨#[]⟩ : ByteArray), .int .i64 0, .int .i64 0, .int .i64 0, .int .i64 0, .int .i64 0]) ?_ 1 _ rfl; (with_reducible repeat (first | refine zi ?_ _ | refine zk ?_ | refine zh ?_ _)); refine zx (cs := #[.string (⟨#[]⟩ : ByteArray), .string (⟨#[]⟩ : ByteArray), .int .i64 0, .int .i64 0, .int .i64 0, .int .i64 0, .int .i64 0]) ?_ 0 _ rfl; (with_reducible repeat (first | refine zi ?_ _ | refine zk ?_ | refine zh ?_ _)); exact zB.out) Tryd.underlying92 rfl (by kernel_rfl)) rfl ?_
    exact ⟨by first | rfl | (simp [errW_none, errW_some] <;> rfl) | (simp [*, errW_none, errW_some] <;> rfl), by repeat (first | (with_reducible first | exact HB.out | apply ze | apply zc | apply zd | refine zj ?_ zE.out) | exact HB.out)⟩
   ·replace c8 := Bool.eq_false_iff.mpr c8
    subst c8
    have H1 : (spec_l4ReadNode.l0 kj4 l0 t136 t138 t139 (([] : List Int)) 0) = some (r1, r2, r3, r4, r5, r6, r7, r8) := by rw [if_neg (show ¬ (false = true) by decide)] at H; exact H
    clear H
    have H := H1
    clear H1
    obtain ⟨y140, hy140⟩ : ∃ y_ : List Int, y_ = (([] : List Int)) := ⟨_, rfl⟩
    replace H : (spec_l4ReadNode.l0 kj4 l0 t136 t138 t139 y140 0) = some (r1, r2, r3, r4, r5, r6, r7, r8) := by first | (rw [hy140]; with_reducible exact H) | (have H2_ := (Option.bind_some _ _).symm.trans H; rw [hy140]; with_reducible exact H2_) | (have H2_ := (Option.bind_some _ _).symm.trans H; with_reducible exact H2_) | with_reducible exact H | (rw [hy140]; exact H) | exact H
    have Ny140 := Aside0.mk hy140
    clear hy140
    have H' := Aside0.mk H
    clear H
    go_wp2_with (first | ((with_reducible refine zv (N := 34) rfl ?_); (try (refine gate_guard (by rfl) ?_; dsimp only)); refine Kd.R_lit (Kd.int .i64) _ 2 ?hg (N := 34) ?hd (xs := ([] : List Int)) (inner := []) (ok := fun _ => True) (okp := fun _ => True) ?hr ?hp (fun _ hk => hk) trivial (Below.refl _ _) (Nat.le_refl _) (by simp) ?_; (case hd => rfl); (case hg => rfl); (case hr => first | (go_simp; done) | (go_simp; rfl)); (case hp => exact (Reps.none _ _)); intro v141 w10 zF hb hg_ hnew_; clear hg_ hnew_; (first | rw [← Ny140.out] at zF | (simp only [Int.reduceToNat] at zF; rw [← Ny140.out] at zF)); have n0_ := Aside0.mk (Kd.R_lower zF (zm (by repeat (first | (with_reducible first | exact HB.out | apply ze | apply zc | apply zd | refine zj ?_ zE.out) | exact HB.out)))); have n1_ := Aside0.mk (zt (g := zD) (o := .cells #[.string (⟨#[]⟩ : ByteArray), .string (⟨#[]⟩ : ByteArray), .int .i64 0, .int .i64 0, .int .i64 0, .int .i64 0, .int .i64 0] 92 (0, 0)) (by (with_reducible repeat (first | refine zi ?_ _ | refine zk ?_ | refine zh ?_ _)); exact zB.out) hb); have n2_ := Aside0.mk (zl (by repeat (first | (with_reducible first | exact HB.out | apply ze | apply zc | apply zd | refine zj ?_ zE.out) | exact HB.out)) hb); clear zB; clear HB; have zU := n0_; have zB := n1_; have HB := n2_; clear n0_ n1_ n2_; clear hb zF))
    go_loopg [10, 11] kj4 (fun kq v10 v11 w' => ∃ (x10_2 : List Int) (x11_2 : Int), v11 = .int .i64 x11_2 ∧ Aside0 (spec_l4ReadNode.l0 kq l0 t136 t138 t139 x10_2 x11_2 = some (r1, r2, r3, r4, r5, r6, r7, r8)) ∧ Aside0 (kq ≤ kj4) ∧ Aside0 (Kd.R (Kd.int .i64) 2 w' w.heap.size (fun _ => True) v10 x10_2) ∧ Aside0 (w'.heap[zD]? = some (.cells #[.string (⟨#[]⟩ : ByteArray), .string (⟨#[]⟩ : ByteArray), .int .i64 0, .int .i64 0, .int .i64 0, .int .i64 0, .int .i64 0] 92 (0, 0))) ∧ Aside0 (Below w.heap.size w w'))
    case atStart => exact ⟨(y140), (0), (by first | rfl | (simp; done) | (simp [*]; done)), H', ⟨Nat.le_refl _⟩, ⟨by (with_reducible repeat (first | apply Kd.R_alloc | apply Kd.R_drewN | apply Kd.R_drew)); exact zU.out⟩, ⟨by (with_reducible repeat (first | refine zi ?_ _ | refine zk ?_ | refine zh ?_ _)); exact zB.out⟩, ⟨by repeat (first | (with_reducible first | exact HB.out | apply ze | apply zc | apply zd | refine zj ?_ zE.out) | exact HB.out)⟩⟩
    case round =>
     clear H'
     try clear p2
     try clear c6
     try clear p6
     try clear c7
     try clear c7b0
     try clear c8
     try clear zG
     try clear zH
     try clear zI
     try clear zJ
     try clear zK
     try clear zL
     try clear zM
     try clear zN
     try clear zO
     try clear zP
     try clear zQ
     try clear zR
     try clear zS
     try clear zT
     try clear p2
     try clear p6
     obtain ⟨x10_2, x11_2, rfl, HA, HK2, zC, zB, HB⟩ := hrel
     cases gk with
     | zero => exact absurd HA.out (by simp [spec_l4ReadNode.l0])
     | succ k2 =>
      have H := HA.out
      clear HA
      simp only [spec_l4ReadNode.l0] at H
      by_cases c12 : x11_2 < 5
      ·rw [if_pos c12] at H
       have c12b0 : decide (x11_2 < 5) = true := decide_eq_true c12
       clear c12
       obtain ⟨ji13, hji13⟩ : ∃ j_ : Int, (wrap64 (t139 + (wrap64 (4 * x11_2)))) = j_ := ⟨_, rfl⟩
       replace H : (if 0 ≤ (ji13) then (if (ji13) ≤ (wrap64 ((ji13) + 4)) then (if (wrap64 ((ji13) + 4)) ≤ (l0.length : Int) then ((spec_l4Number.f k2 ((l0.take ((wrap64 ((ji13) + 4)) : Int).toNat).drop ((ji13) : Int).toNat)).bind fun t144 => (if x10_2.length < 17592186044416 then (spec_l4ReadNode.l0 k2 l0 t136 t138 t139 (x10_2 ++ [t144]) (wrap64 (x11_2 + 1))) else (none))) else (none)) else (none)) else (none)) = some (r1, r2, r3, r4, r5, r6, r7, r8) := by first | (rw [hji13] at H; exact H) | (simp only [hji13] at H ⊢; exact H)
       have hji13w : (IntKind.i64.wrap (t139 + (wrap64 (4 * x11_2)))) = ji13 := (zo _).trans hji13
       by_cases c14 : 0 ≤ (ji13)
       ·rw [if_pos c14] at H
        have c14b0 := eq_true c14
        have c14b1 : decide (0 ≤ (ji13)) = true := decide_eq_true c14
        clear c14
        by_cases c15 : (ji13) ≤ (wrap64 ((ji13) + 4))
        ·rw [if_pos c15] at H
         have c15b0 := eq_true c15
         have c15b1 : decide ((ji13) ≤ (wrap64 ((ji13) + 4))) = true := decide_eq_true c15
         by_cases c16 : (wrap64 ((ji13) + 4)) ≤ (l0.length : Int)
         ·rw [if_pos c16] at H
          have c16b0 := eq_true c16
          have c16b1 : decide ((wrap64 ((ji13) + 4)) ≤ (l0.length : Int)) = true := decide_eq_true c16
          replace H := Option.bind_eq_some_iff.mp H
          obtain ⟨t144, A170, H⟩ := H
          replace H : (if x10_2.length < 17592186044416 then (spec_l4ReadNode.l0 k2 l0 t136 t138 t139 (x10_2 ++ [t144]) (wrap64 (x11_2 + 1))) else (none)) = some (r1, r2, r3, r4, r5, r6, r7, r8) := H
          have A17 := Aside0.mk A170
          clear A170
          by_cases c18 : x10_2.length < 17592186044416
          ·rw [if_pos c18] at H
           have LMc18 := Aside0.mk c18
           clear c18
           obtain ⟨y145, hy145⟩ : ∃ y_ : List Int, y_ = (x10_2 ++ [t144]) := ⟨_, rfl⟩
           replace H : (spec_l4ReadNode.l0 k2 l0 t136 t138 t139 y145 (wrap64 (x11_2 + 1))) = some (r1, r2, r3, r4, r5, r6, r7, r8) := by first | (rw [hy145]; with_reducible exact H) | (have H2_ := (Option.bind_some _ _).symm.trans H; rw [hy145]; with_reducible exact H2_) | (have H2_ := (Option.bind_some _ _).symm.trans H; with_reducible exact H2_) | with_reducible exact H | (rw [hy145]; exact H) | exact H
           have Ny145 := Aside0.mk hy145
           clear hy145
           have H' := Aside0.mk H
           clear H
           obtain ⟨i019, hi019, _, hsz19, _⟩ := info_parts info5
           obtain ⟨A19, hcut19, hA19, hC19⟩ := print_mid_of (P := Tryd.prog) (Value.int .u8) 0 22 5 .i64 .i64 Tryd.underlying22 hi019 hsz19 A0 c0 l0 (ji13) (wrap64 ((ji13) + 4)) (of_decide_eq_true (by first | (with_reducible assumption) | assumption)) (of_decide_eq_true (by first | (with_reducible assumption) | assumption)) (of_decide_eq_true (by first | (with_reducible assumption) | assumption)) HC0.out
           have HR143 := Aside0.mk (Kd.C_of_reads (h1 := fun _ => rfl) (hA19 _ (Kd.reads_of_C HR0.out)))
           have HC143 := Aside0.mk hC19
           clear hA19 hC19 hi019 hsz19
           go_wp2_with (first | ((with_reducible refine zq (f := 65) rfl ?_); refine zz (some 51) rfl rfl Tryd.func65 (by kernel_rfl) rfl #[.slice A19 ((l0.take ((wrap64 ((ji13) + 4)) : Int).toNat).drop ((ji13) : Int).toNat).length (c0 - (ji13).toNat)] rfl (by (try simp only [List.map_toArray, List.map_cons, List.map_nil]); first | done | (rw [show ((l0.take ((wrap64 ((ji13) + 4)) : Int).toNat).drop ((ji13) : Int).toNat).length = ((wrap64 ((ji13) + 4)).toNat - (ji13).toNat) from (by rw [List.length_drop, List.length_take]; have h_ : ((wrap64 ((ji13) + 4)) : Int) ≤ (l0.length : Int) := of_decide_eq_true (by first | (with_reducible assumption) | assumption); omega)] <;> rfl) | (simp only [hji13]; rfl) | rfl | (simp only [List.length_drop, List.length_take]; rfl)) ?_; (with_reducible refine (spec_l4Number.calls k2 _ _ ((l0.take ((wrap64 ((ji13) + 4)) : Int).toNat).drop ((ji13) : Int).toNat) t144 _ ?side1 ?side2 A17.out).mono ?_); (case side1 => repeat (first | exact (Kd.C_below HR143.out HB.out) | (with_reducible refine Kd.C_alloc ?_ _) | (with_reducible refine Kd.C_drewN ?_ _) | (with_reducible refine Kd.C_drew ?_))); (case side2 => exact HC143.out); rintro e w' ⟨rfl, ⟨nd, rfl⟩⟩; refine ⟨_, rfl, ?_⟩) | ((with_reducible refine gate_builtin (b := .append) (xs := #[.tmp 39, .tmp 52]) rfl ?_); (try (refine gate_guard (by rfl) ?_; dsimp only)); at_builtin; refine Kd.R_append (Kd.int .i64) (w0 := w) w.heap.size rfl (.tmp 39) (.tmp 52) 84 2 (.int .i64 0) 8 rfl Tryd.underlying84 info2 rfl (by decide) (by omega) u10 x10_2 t144 [.int .i64 t144] (fun _ => True) (fun _ => False) rfl rfl ?aP (fun _ hk => hk.elim) ?aF ?aO ?aB ?aS ?aL ?_; (case aP => exact rfl); (case aB => exact (by repeat (first | (with_reducible first | exact HB.out | apply ze | apply zc | apply zd | refine zj ?_ zE.out) | exact HB.out))); (case aF => exact (fun _ _ => trivial)); (case aO => exact (by (with_reducible repeat (first | apply Kd.R_alloc | apply Kd.R_drewN | apply Kd.R_drew)); exact zC.out)); (case aS => exact (zm (by repeat (first | (with_reducible first | exact HB.out | apply ze | apply zc | apply zd | refine zj ?_ zE.out) | exact HB.out)))); (case aL => have := LMc18.out; omega); intro v146 w20 ho hb hg hat; rw [← Ny145.out] at ho; have n0_ := Aside0.mk (blk_grown (g := zD) (o := .cells #[.string (⟨#[]⟩ : ByteArray), .string (⟨#[]⟩ : ByteArray), .int .i64 0, .int .i64 0, .int .i64 0, .int .i64 0, .int .i64 0] 92 (0, 0)) (by (with_reducible repeat (first | refine zi ?_ _ | refine zk ?_ | refine zh ?_ _)); exact zB.out) hg (Kd.R_ne zC.out zB.out (by decide))); have n1_ := Aside0.mk (hb); have n2_ := Aside0.mk (ho); clear zB; clear HB; clear zC; have zB := n0_; have HB := n1_; have zV := n2_; clear n0_ n1_ n2_; clear ho hb hg hat))
           go_roundg k2
           case measure => clear hji13w hji13; have := HJ4.out; have := HK2.out; omega
           case rel => exact ⟨(y145), (wrap64 (x11_2 + 1)), (by first | rfl | (simp; done) | (simp [*]; done)), H', ⟨by clear hji13w hji13; have := HJ4.out; have := HK2.out; omega⟩, ⟨by (with_reducible repeat (first | apply Kd.R_alloc | apply Kd.R_drewN | apply Kd.R_drew)); exact zV.out⟩, ⟨by (with_reducible repeat (first | refine zi ?_ _ | refine zk ?_ | refine zh ?_ _)); exact zB.out⟩, ⟨by repeat (first | (with_reducible first | exact HB.out | apply ze | apply zc | apply zd | refine zj ?_ zE.out) | exact HB.out)⟩⟩
          ·rw [if_neg c18] at H
           exact absurd H (by simp)
         ·rw [if_neg c16] at H
          exact absurd H (by simp)
        ·rw [if_neg c15] at H
         exact absurd H (by simp)
       ·rw [if_neg c14] at H
        exact absurd H (by simp)
      ·rw [if_neg c12] at H
       have c12b0 : decide (x11_2 < 5) = false := decide_eq_false c12
       clear c12
       by_cases c21 : 0 < (x10_2.length : Int)
       ·rw [if_pos c21] at H
        have c21b0 : decide (0 < (x10_2.length : Int)) = true := decide_eq_true c21
        have c21b1 : decide (0 < x10_2.length) = true := decide_eq_true (by omega)
        clear c21
        by_cases c22 : 1 < (x10_2.length : Int)
        ·rw [if_pos c22] at H
         have c22b0 : decide (1 < (x10_2.length : Int)) = true := decide_eq_true c22
         have c22b1 : decide (1 < x10_2.length) = true := decide_eq_true (by omega)
         clear c22
         by_cases c23 : 2 < (x10_2.length : Int)
         ·rw [if_pos c23] at H
          have c23b0 : decide (2 < (x10_2.length : Int)) = true := decide_eq_true c23
          have c23b1 : decide (2 < x10_2.length) = true := decide_eq_true (by omega)
          clear c23
          by_cases c24 : 3 < (x10_2.length : Int)
          ·rw [if_pos c24] at H
           have c24b0 : decide (3 < (x10_2.length : Int)) = true := decide_eq_true c24
           have c24b1 : decide (3 < x10_2.length) = true := decide_eq_true (by omega)
           clear c24
           by_cases c25 : 4 < (x10_2.length : Int)
           ·rw [if_pos c25] at H
            have c25b0 : decide (4 < (x10_2.length : Int)) = true := decide_eq_true c25
            have c25b1 : decide (4 < x10_2.length) = true := decide_eq_true (by omega)
            clear c25
            simp only [Option.some.injEq, Prod.mk.injEq] at H
            obtain ⟨rfl, rfl, rfl, rfl, rfl, rfl, rfl, rfl⟩ := H
            try go_wp2
            have n0_ := Aside0.mk (Kd.R_drew zC.out)
            have n1_ := Aside0.mk (zk zB.out)
            have n2_ := Aside0.mk (zd HB.out)
            clear zC
            clear zB
            clear HB
            have zC := n0_
            have zB := n1_
            have HB := n2_
            clear n0_ n1_ n2_
            obtain ⟨Ao27, co27, eo27⟩ := Kd.R_slice zC.out
            (first | subst eo27 | (injection eo27 with f1_ f2_ f3_; have f4_ := f1_.symm; have f5_ := f3_.symm; clear f1_ f2_ f3_; subst f4_; subst f5_))
            have p148 : 0 ≤ (0 : Int) := (by omega)
            have q148 : 0 < (x10_2.length : Int) := of_decide_eq_true (by first | (with_reducible assumption) | assumption)
            obtain ⟨ad148, e148, hx148_0⟩ := Kd.at_int (Kd.R_reads' zC.out).2.2 0 p148 q148
            cases e148
            have qi148 : (0 < x10_2.length) = True := eq_true (by omega)
            (try rw [show ((0 : Int)).toNat = 0 from rfl] at hx148_0)
            (try rw [Addr.add_zero'] at hx148_0)
            replace p148 := eq_true p148
            replace q148 := eq_true q148
            have p149 : 0 ≤ (1 : Int) := (by omega)
            have q149 : 1 < (x10_2.length : Int) := of_decide_eq_true (by first | (with_reducible assumption) | assumption)
            obtain ⟨ad149, e149, hx149_0⟩ := Kd.at_int (Kd.R_reads' zC.out).2.2 1 p149 q149
            obtain rfl : ad148 = ad149 := (by injection e149)
            (try simp only [show (1 : Int).toNat = 1 from rfl, Nat.reduceMul, Nat.reduceEqDiff, Go.Addr.add, ↓reduceIte] at hx149_0)
            have qi149 : (1 < x10_2.length) = True := eq_true (by omega)
            (try rw [show ((1 : Int)).toNat = 1 from rfl] at hx149_0)
            replace p149 := eq_true p149
            replace q149 := eq_true q149
            have p150 : 0 ≤ (2 : Int) := (by omega)
            have q150 : 2 < (x10_2.length : Int) := of_decide_eq_true (by first | (with_reducible assumption) | assumption)
            obtain ⟨ad150, e150, hx150_0⟩ := Kd.at_int (Kd.R_reads' zC.out).2.2 2 p150 q150
            obtain rfl : ad148 = ad150 := (by injection e150)
            (try simp only [show (2 : Int).toNat = 2 from rfl, Nat.reduceMul, Nat.reduceEqDiff, Go.Addr.add, ↓reduceIte] at hx150_0)
            have qi150 : (2 < x10_2.length) = True := eq_true (by omega)
            (try rw [show ((2 : Int)).toNat = 2 from rfl] at hx150_0)
            replace p150 := eq_true p150
            replace q150 := eq_true q150
            have p151 : 0 ≤ (3 : Int) := (by omega)
            have q151 : 3 < (x10_2.length : Int) := of_decide_eq_true (by first | (with_reducible assumption) | assumption)
            obtain ⟨ad151, e151, hx151_0⟩ := Kd.at_int (Kd.R_reads' zC.out).2.2 3 p151 q151
            obtain rfl : ad148 = ad151 := (by injection e151)
            (try simp only [show (3 : Int).toNat = 3 from rfl, Nat.reduceMul, Nat.reduceEqDiff, Go.Addr.add, ↓reduceIte] at hx151_0)
            have qi151 : (3 < x10_2.length) = True := eq_true (by omega)
            (try rw [show ((3 : Int)).toNat = 3 from rfl] at hx151_0)
            replace p151 := eq_true p151
            replace q151 := eq_true q151
            have p152 : 0 ≤ (4 : Int) := (by omega)
            have q152 : 4 < (x10_2.length : Int) := of_decide_eq_true (by first | (with_reducible assumption) | assumption)
            obtain ⟨ad152, e152, hx152_0⟩ := Kd.at_int (Kd.R_reads' zC.out).2.2 4 p152 q152
            obtain rfl : ad148 = ad152 := (by injection e152)
            (try simp only [show (4 : Int).toNat = 4 from rfl, Nat.reduceMul, Nat.reduceEqDiff, Go.Addr.add, ↓reduceIte] at hx152_0)
            have qi152 : (4 < x10_2.length) = True := eq_true (by omega)
            (try rw [show ((4 : Int)).toNat = 4 from rfl] at hx152_0)
            replace p152 := eq_true p152
            replace q152 := eq_true q152
            refine start_ (n := 22) (S := fun w' => w'.cell? ad148 = some (.int .i64 (rd x10_2 0)) ∧ w'.cell? ⟨ad148.block, ad148.off + 1, none⟩ = some (.int .i64 (rd x10_2 1)) ∧ w'.cell? ⟨ad148.block, ad148.off + 2, none⟩ = some (.int .i64 (rd x10_2 2)) ∧ w'.cell? ⟨ad148.block, ad148.off + 3, none⟩ = some (.int .i64 (rd x10_2 3)) ∧ w'.cell? ⟨ad148.block, ad148.off + 4, none⟩ = some (.int .i64 (rd x10_2 4))) (ds := []) #[false, false, false, false, false, false, false, false, false, false, false, false, false, false, false, false, false, false, false, false, false, false] (by kernel_rfl) rfl rfl ⟨hx148_0, hx149_0, hx150_0, hx151_0, hx152_0⟩ (fun hHeld => ?_); refine with_tabW spec_l4ReadNode.tab10 spec_l4ReadNode.bits10 (fun HT_ HW_ => ?_)
            generalize wr.drew = w26 at zC zB HB hx148_0 hx149_0 hx150_0 hx151_0 hx152_0 hHeld ⊢
            refine zr (i := 0) (N := some 54) (v := ?_) (a' := ?_) #[true, false, false, false, false, false, false, false, false, false, false, false, false, false, false, false, false, false, false, false, false, false] rfl rfl (zn HT_.out (by kernel_rfl)) (fun _ _ _ h => h) (Or.inl ⟨by rfl, ?_⟩) ?_ ?_
            rotate_left
            ·intro w'
             go_simp
             with_reducible rfl
            rotate_left
            ·simp only [Act.put, List.setIfInBounds_toArray, List.set_cons_zero, List.set_cons_succ, zo, zp]
             rfl
            refine zr (i := 1) (N := some 55) (v := ?_) (a' := ?_) #[true, true, false, false, false, false, false, false, false, false, false, false, false, false, false, false, false, false, false, false, false, false] rfl rfl (zn HT_.out (by kernel_rfl)) (fun _ _ _ h => h) (Or.inl ⟨by rfl, ?_⟩) ?_ ?_
            rotate_left
            ·intro w'
             go_simp
             with_reducible rfl
            rotate_left
            ·simp only [Act.put, List.setIfInBounds_toArray, List.set_cons_zero, List.set_cons_succ, zo, zp]
             rfl
            refine zr (i := 2) (N := some 56) (v := ?_) (a' := ?_) #[true, true, true, false, false, false, false, false, false, false, false, false, false, false, false, false, false, false, false, false, false, false] rfl rfl (zn HT_.out (by kernel_rfl)) (fun _ _ _ h => h) (Or.inl ⟨by rfl, ?_⟩) ?_ ?_
            rotate_left
            ·intro w'
             go_simp
             with_reducible rfl
            rotate_left
            ·simp only [Act.put, List.setIfInBounds_toArray, List.set_cons_zero, List.set_cons_succ, zo, zp]
             rfl
            refine zr (i := 3) (N := some 57) (v := ?_) (a' := ?_) #[true, true, true, true, false, false, false, false, false, false, false, false, false, false, false, false, false, false, false, false, false, false] rfl rfl (zn HT_.out (by kernel_rfl)) (fun _ _ _ h => h) (Or.inl ⟨by rfl, ?_⟩) ?_ ?_
            rotate_left
            ·intro w'
             go_simp
             with_reducible rfl
            rotate_left
            ·simp only [Act.put, List.setIfInBounds_toArray, List.set_cons_zero, List.set_cons_succ, zo, zp]
             rfl
            refine zr (i := 5) (N := some 59) (v := ?_) (a' := ?_) #[true, true, true, true, false, true, false, false, false, false, false, false, false, false, false, false, false, false, false, false, false, false] rfl rfl (zn HT_.out (by kernel_rfl)) (fun _ _ _ h => h) (Or.inl ⟨by rfl, ?_⟩) ?_ ?_
            rotate_left
            ·intro w'
             go_simp
             with_reducible rfl
            rotate_left
            ·simp only [Act.put, List.setIfInBounds_toArray, List.set_cons_zero, List.set_cons_succ, zo, zp]
             rfl
            refine zr (i := 6) (N := some 60) (v := ?_) (a' := ?_) #[true, true, true, true, false, true, true, false, false, false, false, false, false, false, false, false, false, false, false, false, false, false] rfl rfl (zn HT_.out (by kernel_rfl)) (fun _ _ _ h => h) (Or.inl ⟨by rfl, ?_⟩) ?_ ?_
            rotate_left
            ·intro w'
             go_simp
             with_reducible rfl
            rotate_left
            ·simp only [Act.put, List.setIfInBounds_toArray, List.set_cons_zero, List.set_cons_succ, zo, zp]
             rfl
            refine zr (i := 8) (N := some 62) (v := ?_) (a' := ?_) #[true, true, true, true, false, true, true, false, true, false, false, false, false, false, false, false, false, false, false, false, false, false] rfl rfl (zn HT_.out (by kernel_rfl)) (fun _ _ _ h => h) (Or.inl ⟨by rfl, ?_⟩) ?_ ?_
            rotate_left
            ·intro w'
             go_simp
             with_reducible rfl
            rotate_left
            ·simp only [Act.put, List.setIfInBounds_toArray, List.set_cons_zero, List.set_cons_succ, zo, zp]
             rfl
            refine zr (i := 9) (N := some 63) (v := ?_) (a' := ?_) #[true, true, true, true, false, true, true, false, true, true, false, false, false, false, false, false, false, false, false, false, false, false] rfl rfl (zn HT_.out (by kernel_rfl)) (fun _ _ _ h => h) (Or.inl ⟨by rfl, ?_⟩) ?_ ?_
            rotate_left
            ·intro w'
             go_simp
             with_reducible rfl
            rotate_left
            ·simp only [Act.put, List.setIfInBounds_toArray, List.set_cons_zero, List.set_cons_succ, zo, zp]
             rfl
            refine zr (i := 11) (N := some 65) (v := ?_) (a' := ?_) #[true, true, true, true, false, true, true, false, true, true, false, true, false, false, false, false, false, false, false, false, false, false] rfl rfl (zn HT_.out (by kernel_rfl)) (fun _ _ _ h => h) (Or.inl ⟨by rfl, ?_⟩) ?_ ?_
            rotate_left
            ·intro w'
             go_simp
             with_reducible rfl
            rotate_left
            ·simp only [Act.put, List.setIfInBounds_toArray, List.set_cons_zero, List.set_cons_succ, zo, zp]
             rfl
            refine zr (i := 12) (N := some 66) (v := ?_) (a' := ?_) #[true, true, true, true, false, true, true, false, true, true, false, true, true, false, false, false, false, false, false, false, false, false] rfl rfl (zn HT_.out (by kernel_rfl)) (fun _ _ _ h => h) (Or.inl ⟨by rfl, ?_⟩) ?_ ?_
            rotate_left
            ·intro w'
             go_simp
             with_reducible rfl
            rotate_left
            ·simp only [Act.put, List.setIfInBounds_toArray, List.set_cons_zero, List.set_cons_succ, zo, zp]
             rfl
            refine zr (i := 14) (N := some 68) (v := ?_) (a' := ?_) #[true, true, true, true, false, true, true, false, true, true, false, true, true, false, true, false, false, false, false, false, false, false] rfl rfl (zn HT_.out (by kernel_rfl)) (fun _ _ _ h => h) (Or.inl ⟨by rfl, ?_⟩) ?_ ?_
            rotate_left
            ·intro w'
             go_simp
             with_reducible rfl
            rotate_left
            ·simp only [Act.put, List.setIfInBounds_toArray, List.set_cons_zero, List.set_cons_succ, zo, zp]
             rfl
            refine zr (i := 15) (N := some 69) (v := ?_) (a' := ?_) #[true, true, true, true, false, true, true, false, true, true, false, true, true, false, true, true, false, false, false, false, false, false] rfl rfl (zn HT_.out (by kernel_rfl)) (fun _ _ _ h => h) (Or.inl ⟨by rfl, ?_⟩) ?_ ?_
            rotate_left
            ·intro w'
             go_simp
             with_reducible rfl
            rotate_left
            ·simp only [Act.put, List.setIfInBounds_toArray, List.set_cons_zero, List.set_cons_succ, zo, zp]
             rfl
            refine zr (i := 18) (N := some 72) (v := ?_) (a' := ?_) #[true, true, true, true, false, true, true, false, true, true, false, true, true, false, true, true, false, false, true, false, false, false] rfl rfl (zn HT_.out (by kernel_rfl)) (fun _ _ _ h => h) (Or.inl ⟨by rfl, ?_⟩) ?_ ?_
            rotate_left
            ·intro w'
             go_simp
             with_reducible rfl
            rotate_left
            ·simp only [Act.put, List.setIfInBounds_toArray, List.set_cons_zero, List.set_cons_succ, zo, zp]
             rfl
            refine zr (i := 19) (N := some 73) (v := ?_) (a' := ?_) #[true, true, true, true, false, true, true, false, true, true, false, true, true, false, true, true, false, false, true, true, false, false] rfl rfl (zn HT_.out (by kernel_rfl)) (fun _ _ _ h => h) (Or.inl ⟨by rfl, ?_⟩) ?_ ?_
            rotate_left
            ·intro w'
             go_simp
             with_reducible rfl
            rotate_left
            ·simp only [Act.put, List.setIfInBounds_toArray, List.set_cons_zero, List.set_cons_succ, zo, zp]
             rfl
            refine take_ (i := 4) (N := some 58) (v := ?_) (a' := ?_) #[true, true, true, true, true, true, true, false, true, true, false, true, true, false, true, true, false, false, true, true, false, false] rfl rfl (zA HT_.out HW_.out (by kernel_rfl)) (fun _ _ _ h => h) (Or.inl ⟨by rfl, ?_⟩) hHeld ?_ ?_
            rotate_left
            ·rintro w' ⟨s0, s1, s2, s3, s4⟩
             go_simp
             with_reducible rfl
            rotate_left
            ·simp only [Act.put, List.setIfInBounds_toArray, List.set_cons_zero, List.set_cons_succ, zo, zp]
             rfl
            refine take_ (i := 7) (N := some 61) (v := ?_) (a' := ?_) #[true, true, true, true, true, true, true, true, true, true, false, true, true, false, true, true, false, false, true, true, false, false] rfl rfl (zA HT_.out HW_.out (by kernel_rfl)) (fun _ _ _ h => h) (Or.inl ⟨by rfl, ?_⟩) hHeld ?_ ?_
            rotate_left
            ·rintro w' ⟨s0, s1, s2, s3, s4⟩
             go_simp
             with_reducible rfl
            rotate_left
            ·simp only [Act.put, List.setIfInBounds_toArray, List.set_cons_zero, List.set_cons_succ, zo, zp]
             rfl
            refine take_ (i := 10) (N := some 64) (v := ?_) (a' := ?_) #[true, true, true, true, true, true, true, true, true, true, true, true, true, false, true, true, false, false, true, true, false, false] rfl rfl (zA HT_.out HW_.out (by kernel_rfl)) (fun _ _ _ h => h) (Or.inl ⟨by rfl, ?_⟩) hHeld ?_ ?_
            rotate_left
            ·rintro w' ⟨s0, s1, s2, s3, s4⟩
             go_simp
             with_reducible rfl
            rotate_left
            ·simp only [Act.put, List.setIfInBounds_toArray, List.set_cons_zero, List.set_cons_succ, zo, zp]
             rfl
            refine take_ (i := 13) (N := some 67) (v := ?_) (a' := ?_) #[true, true, true, true, true, true, true, true, true, true, true, true, true, true, true, true, false, false, true, true, false, false] rfl rfl (zA HT_.out HW_.out (by kernel_rfl)) (fun _ _ _ h => h) (Or.inl ⟨by rfl, ?_⟩) hHeld ?_ ?_
            rotate_left
            ·rintro w' ⟨s0, s1, s2, s3, s4⟩
             go_simp
             with_reducible rfl
            rotate_left
            ·simp only [Act.put, List.setIfInBounds_toArray, List.set_cons_zero, List.set_cons_succ, zo, zp]
             rfl
            refine take_ (i := 16) (N := some 70) (v := ?_) (a' := ?_) #[true, true, true, true, true, true, true, true, true, true, true, true, true, true, true, true, true, false, true, true, false, false] rfl rfl (zA HT_.out HW_.out (by kernel_rfl)) (fun _ _ _ h => h) (Or.inl ⟨by rfl, ?_⟩) hHeld ?_ ?_
            rotate_left
            ·rintro w' ⟨s0, s1, s2, s3, s4⟩
             go_simp
             with_reducible rfl
            rotate_left
            ·simp only [Act.put, List.setIfInBounds_toArray, List.set_cons_zero, List.set_cons_succ, zo, zp]
             rfl
            refine zr (i := 17) (N := some 71) (v := ?_) (a' := ?_) #[true, true, true, true, true, true, true, true, true, true, true, true, true, true, true, true, true, true, true, true, false, false] rfl rfl (zn HT_.out (by kernel_rfl)) (fun _ _ _ h => h) (Or.inl ⟨by rfl, ?_⟩) ?_ ?_
            rotate_left
            ·intro w'
             go_simp
             with_reducible rfl
            rotate_left
            ·simp only [Act.put, List.setIfInBounds_toArray, List.set_cons_zero, List.set_cons_succ, zo, zp]
             rfl
            refine one_ (i := 20) (N := none) #[true, true, true, true, true, true, true, true, true, true, true, true, true, true, true, true, true, true, true, true, true, false] rfl rfl (one_of HT_.out (by kernel_rfl)) (by decide) (fun K hK => ?_)
            have hs28 : w26.cell? ⟨zD, 0, none⟩ = some (.string (⟨#[]⟩ : ByteArray)) := (zg zB.out 0).trans rfl
            have hfs28 := zf zB.out 0
            have hs29 : w26.cell? ⟨zD, 1, none⟩ = some (.string (⟨#[]⟩ : ByteArray)) := (zg zB.out 1).trans rfl
            have hfs29 := zf zB.out 1
            have hs30 : w26.cell? ⟨zD, 2, none⟩ = some (.int .i64 0) := (zg zB.out 2).trans rfl
            have hfs30 := zf zB.out 2
            have hs31 : w26.cell? ⟨zD, 3, none⟩ = some (.int .i64 0) := (zg zB.out 3).trans rfl
            have hfs31 := zf zB.out 3
            have hs32 : w26.cell? ⟨zD, 4, none⟩ = some (.int .i64 0) := (zg zB.out 4).trans rfl
            have hfs32 := zf zB.out 4
            have hs33 : w26.cell? ⟨zD, 5, none⟩ = some (.int .i64 0) := (zg zB.out 5).trans rfl
            have hfs33 := zf zB.out 5
            have hs34 : w26.cell? ⟨zD, 6, none⟩ = some (.int .i64 0) := (zg zB.out 6).trans rfl
            have hfs34 := zf zB.out 6
            refine skip_ (w1 := ?_) (by rfl) rfl ?_ ?_
            rotate_left
            ·go_simp
             rfl
            have hne_ : ad148.block ≠ zD := by first | exact Kd.own_blk (Kd.R_ne zC.out zB.out (by decide)) | exact Ne.symm (Kd.own_blk (Kd.R_ne zC.out zB.out (by decide)))
            have hfar_ : ∀ (u_ : World) (i_ : Nat) (x_ : Value) (b_ : Addr), b_.block = ad148.block → (u_.setCell ⟨zD, i_, none⟩ x_).cell? b_ = u_.cell? b_ := fun u_ i_ x_ b_ hb_ => cell_far (p := ⟨zD, i_, none⟩) (by rw [hb_]; exact hne_) x_
            refine hK.out _ _ ⟨(by simp only [hfar_ _ _ _ (ad148) rfl]; exact hHeld.1), (by simp only [hfar_ _ _ _ (⟨ad148.block, ad148.off + 1, none⟩) rfl]; exact hHeld.2.1), (by simp only [hfar_ _ _ _ (⟨ad148.block, ad148.off + 2, none⟩) rfl]; exact hHeld.2.2.1), (by simp only [hfar_ _ _ _ (⟨ad148.block, ad148.off + 3, none⟩) rfl]; exact hHeld.2.2.2.1), (by simp only [hfar_ _ _ _ (⟨ad148.block, ad148.off + 4, none⟩) rfl]; exact hHeld.2.2.2.2)⟩ (fun hHeld => ?_)
            clear hfar_ hne_
            clear hK K
            refine zr (i := 21) (N := some 5) (v := ?_) (a' := ?_) #[true, true, true, true, true, true, true, true, true, true, true, true, true, true, true, true, true, true, true, true, true, true] rfl rfl (zn HT_.out (by kernel_rfl)) (fun _ _ _ h => h) (Or.inl ⟨by rfl, ?_⟩) ?_ ?_
            rotate_left
            ·intro w'
             go_simp
             with_reducible rfl
            rotate_left
            ·simp only [Act.put, List.setIfInBounds_toArray, List.set_cons_zero, List.set_cons_succ, zo, zp]
             rfl
            refine done_ (done_of HT_.out (by kernel_rfl)) ?_
            try go_wp2
            refine bodyPost_ret (results_ct rfl _ _ zD 92 #[.string t136, .string t138, .int .i64 (rd x10_2 0), .int .i64 (rd x10_2 1), .int .i64 (rd x10_2 2), .int .i64 (rd x10_2 3), .int .i64 (rd x10_2 4)] (0, 0) _ rfl (by (with_reducible repeat (first | refine zi ?_ _ | refine zk ?_ | refine zh ?_ _)); refine zx (cs := #[.string t136, .string t138, .int .i64 (rd x10_2 0), .int .i64 (rd x10_2 1), .int .i64 (rd x10_2 2), .int .i64 (rd x10_2 3), .int .i64 0]) ?_ 6 _ rfl; (with_reducible repeat (first | refine zi ?_ _ | refine zk ?_ | refine zh ?_ _)); refine zx (cs := #[.string t136, .string t138, .int .i64 (rd x10_2 0), .int .i64 (rd x10_2 1), .int .i64 (rd x10_2 2), .int .i64 0, .int .i64 0]) ?_ 5 _ rfl; (with_reducible repeat (first | refine zi ?_ _ | refine zk ?_ | refine zh ?_ _)); refine zx (cs := #[.string t136, .string t138, .int .i64 (rd x10_2 0), .int .i64 (rd x10_2 1), .int .i64 0, .int .i64 0, .int .i64 0]) ?_ 4 _ rfl; (with_reducible repeat (first | refine zi ?_ _ | refine zk ?_ | refine zh ?_ _)); refine zx (cs := #[.string t136, .string t138, .int .i64 (rd x10_2 0), .int .i64 0, .int .i64 0, .int .i64 0, .int .i64 0]) ?_ 3 _ rfl; (with_reducible repeat (first | refine zi ?_ _ | refine zk ?_ | refine zh ?_ _)); refine zx (cs := #[.string t136, .string t138, .int .i64 0, .int .i64 0, .int .i64 0, .int .i64 0, .int .i64 0]) ?_ 2 _ rfl; (with_reducible repeat (first | refine zi ?_ _ | refine zk ?_ | refine zh ?_ _)); refine zx (cs := #[.string t136, .string (⟨#[]⟩ : ByteArray), .int .i64 0, .int .i64 0, .int .i64 0, .int .i64 0, .int .i64 0]) ?_ 1 _ rfl; (with_reducible repeat (first | refine zi ?_ _ | refine zk ?_ | refine zh ?_ _)); refine zx (cs := #[.string (⟨#[]⟩ : ByteArray), .string (⟨#[]⟩ : ByteArray), .int .i64 0, .int .i64 0, .int .i64 0, .int .i64 0, .int .i64 0]) ?_ 0 _ rfl; (with_reducible repeat (first | refine zi ?_ _ | refine zk ?_ | refine zh ?_ _)); exact zB.out) Tryd.underlying92 rfl (by kernel_rfl)) rfl ?_
            exact ⟨by first | rfl | (simp [errW_none, errW_some] <;> rfl) | (simp [*, errW_none, errW_some] <;> rfl), by repeat (first | (with_reducible first | exact HB.out | apply ze | apply zc | apply zd | refine zj ?_ zE.out) | exact HB.out)⟩
           ·rw [if_neg c25] at H
            exact absurd H (by simp)
          ·rw [if_neg c24] at H
           exact absurd H (by simp)
         ·rw [if_neg c23] at H
          exact absurd H (by simp)
        ·rw [if_neg c22] at H
         exact absurd H (by simp)
       ·rw [if_neg c21] at H
        exact absurd H (by simp)

end Go.Proofs.YtjoafknckmoojaaDoor.GFnExactDecodeTree
