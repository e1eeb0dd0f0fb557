/- Written by give.py, a program of this session, that runs the kit's print and lays contracts proved by hand beside it. -/
import Derived.Test.YtfiojiokmkiflaaDoorGFnExactApplyTxnx0
import Derived.Test.YtfiojiokmkiflaaDoorHStep
namespace Go.Proofs.YtfiojiokmkiflaaDoor.GFnExactApplyTxn
open Go.Proofs.YtfiojiokmkiflaaDoorH (pu po ta pt ps p0 p1)
open Go.RowKit Go.Proofs.YtfiojiokmkiflaaDoorW.PrintWords Go.Proofs.YtfiojiokmkiflaaDoorW.PrintLast Go.Proofs.YtfiojiokmkiflaaDoorW.PrintMore
attribute [local go_sem] max2_int min2_int max_two min_two max_three min_three max_four min_four
attribute [local go_sem high] Go.Proofs.YtfiojiokmkiflaaDoorH.str_leq Go.Proofs.YtfiojiokmkiflaaDoorH.str_geq Go.Proofs.YtfiojiokmkiflaaDoorH.str_gtr   -- for this text's walks alone
set_option linter.unusedVariables false
set_option linter.unusedSimpArgs false

def laws_szNode.f (a0_0 : ByteArray) (a0_1 : ByteArray) (a0_2 : Int) (a0_3 : Int) (a0_4 : Int) (a0_5 : Int) (a0_6 : Int) (a1 : Int) : Option (Int) := if (wrap64 (a1 - (a0_0.size : Int))) < 0 then (some (-1)) else (if (wrap64 ((wrap64 (a1 - (a0_0.size : Int))) - (a0_1.size : Int))) < 0 then (some (-1)) else (some (wrap64 ((wrap64 (a1 - (a0_0.size : Int))) - (a0_1.size : Int)))))
set_option maxHeartbeats 8000000 in
set_option maxRecDepth 100000 in
theorem laws_szNode.calls (a0_0 : ByteArray) (a0_1 : ByteArray) (a0_2 : Int) (a0_3 : Int) (a0_4 : Int) (a0_5 : Int) (a0_6 : Int) (a1 : Int) (r : Int) (w : World) (h : laws_szNode.f a0_0 a0_1 a0_2 a0_3 a0_4 a0_5 a0_6 a1 = some r) :
  Calls Tryd.prog 102 #[.agg #[.string a0_0, .string a0_1, .int .i64 a0_2, .int .i64 a0_3, .int .i64 a0_4, .int .i64 a0_5, .int .i64 a0_6], .int .i64 a1] w fun e w' => e = .returned (.int .i64 r) ∧ Below w.heap.size w w' := by
 have hu171 := Tryd.underlying171
 have HB := Aside0.mk (Below.refl w.heap.size w)
 have H : (if (wrap64 (a1 - (a0_0.size : Int))) < 0 then (some (-1)) else (if (wrap64 ((wrap64 (a1 - (a0_0.size : Int))) - (a0_1.size : Int))) < 0 then (some (-1)) else (some (wrap64 ((wrap64 (a1 - (a0_0.size : Int))) - (a0_1.size : Int)))))) = some r := h
 clear h
 by_cases c3 : (wrap64 (a1 - (a0_0.size : Int))) < 0
 ·rw [if_pos c3] at H
  have c3b0 : decide ((wrap64 (a1 - (a0_0.size : Int))) < 0) = true := decide_eq_true c3
  clear c3
  obtain rfl := Option.some.inj H
  go_enter Tryd.func102, Tryd.ntmps102
  go_wp2_with (first | ((with_reducible refine zu (N := 2) rfl ?_); refine zy ?hg (N := 2) ?hd (cs := #[.string a0_0, .string a0_1, .int .i64 a0_2, .int .i64 a0_3, .int .i64 a0_4, .int .i64 a0_5, .int .i64 a0_6]) (t := 171) ?hr ?_; (case hd => rfl); (case hg => rfl); (case hr => first | (go_simp; done) | (go_simp; rfl)); intro zB hg w4 hbox hb; have n0_ := Aside0.mk (zn (by exact bl HB.out) hb); have n1_ := Aside0.mk (hbox); have n2_ := Aside0.mk ((by rw [hg]; exact (zm (by exact bl HB.out)) : w.heap.size ≤ zB)); have n3_ := Aside0.mk ((by rw [hg]; exact (zm (by exact bl HB.out)) : w.heap.size ≤ zB)); clear HB; have HB := n0_; have zA := n1_; have GW101 := n2_; have zC := n3_; clear n0_ n1_ n2_ n3_; clear hb hbox hg; have zR : w4.cell? ⟨zB, 0, none⟩ = some (.string a0_0) := (zc zA.out 0).trans rfl; have zS : w4.cell? ⟨zB, 1, none⟩ = some (.string a0_1) := (zc zA.out 1).trans rfl; have zT : w4.cell? ⟨zB, 2, none⟩ = some (.int .i64 a0_2) := (zc zA.out 2).trans rfl; have zU : w4.cell? ⟨zB, 3, none⟩ = some (.int .i64 a0_3) := (zc zA.out 3).trans rfl; have zV : w4.cell? ⟨zB, 4, none⟩ = some (.int .i64 a0_4) := (zc zA.out 4).trans rfl; have zW : w4.cell? ⟨zB, 5, none⟩ = some (.int .i64 a0_5) := (zc zA.out 5).trans rfl; have zX : w4.cell? ⟨zB, 6, none⟩ = some (.int .i64 a0_6) := (zc zA.out 6).trans rfl; have zY := ze zA.out 0; have zZ := ze zA.out 1; have zab := ze zA.out 2; have zbb := ze zA.out 3; have zcb := ze zA.out 4; have zdb := ze zA.out 5; have zeb := ze zA.out 6))
  go_ret
  exact ⟨by first | rfl | (simp [*] <;> rfl), by repeat (first | (with_reducible first | exact HB.out | apply zh | apply zf | apply zg | refine zd ?_ zC.out) | exact HB.out)⟩
 ·rw [if_neg c3] at H
  have c3b0 : decide ((wrap64 (a1 - (a0_0.size : Int))) < 0) = false := decide_eq_false c3
  clear c3
  by_cases c6 : (wrap64 ((wrap64 (a1 - (a0_0.size : Int))) - (a0_1.size : Int))) < 0
  ·rw [if_pos c6] at H
   have c6b0 : decide ((wrap64 ((wrap64 (a1 - (a0_0.size : Int))) - (a0_1.size : Int))) < 0) = true := decide_eq_true c6
   clear c6
   obtain rfl := Option.some.inj H
   go_enter Tryd.func102, Tryd.ntmps102
   go_wp2_with (first | ((with_reducible refine zu (N := 2) rfl ?_); refine zy ?hg (N := 2) ?hd (cs := #[.string a0_0, .string a0_1, .int .i64 a0_2, .int .i64 a0_3, .int .i64 a0_4, .int .i64 a0_5, .int .i64 a0_6]) (t := 171) ?hr ?_; (case hd => rfl); (case hg => rfl); (case hr => first | (go_simp; done) | (go_simp; rfl)); intro zB hg w7 hbox hb; have n0_ := Aside0.mk (zn (by exact bl HB.out) hb); have n1_ := Aside0.mk (hbox); have n2_ := Aside0.mk ((by rw [hg]; exact (zm (by exact bl HB.out)) : w.heap.size ≤ zB)); have n3_ := Aside0.mk ((by rw [hg]; exact (zm (by exact bl HB.out)) : w.heap.size ≤ zB)); clear HB; have HB := n0_; have zA := n1_; have GW101 := n2_; have zC := n3_; clear n0_ n1_ n2_ n3_; clear hb hbox hg; have zfb : w7.cell? ⟨zB, 0, none⟩ = some (.string a0_0) := (zc zA.out 0).trans rfl; have zgb : w7.cell? ⟨zB, 1, none⟩ = some (.string a0_1) := (zc zA.out 1).trans rfl; have zhb : w7.cell? ⟨zB, 2, none⟩ = some (.int .i64 a0_2) := (zc zA.out 2).trans rfl; have zib : w7.cell? ⟨zB, 3, none⟩ = some (.int .i64 a0_3) := (zc zA.out 3).trans rfl; have zjb : w7.cell? ⟨zB, 4, none⟩ = some (.int .i64 a0_4) := (zc zA.out 4).trans rfl; have zkb : w7.cell? ⟨zB, 5, none⟩ = some (.int .i64 a0_5) := (zc zA.out 5).trans rfl; have zlb : w7.cell? ⟨zB, 6, none⟩ = some (.int .i64 a0_6) := (zc zA.out 6).trans rfl; have zmb := ze zA.out 0; have znb := ze zA.out 1; have zob := ze zA.out 2; have zpb := ze zA.out 3; have zqb := ze zA.out 4; have zrb := ze zA.out 5; have zsb := ze zA.out 6))
   go_ret
   exact ⟨by first | rfl | (simp [*] <;> rfl), by repeat (first | (with_reducible first | exact HB.out | apply zh | apply zf | apply zg | refine zd ?_ zC.out) | exact HB.out)⟩
  ·rw [if_neg c6] at H
   have c6b0 : decide ((wrap64 ((wrap64 (a1 - (a0_0.size : Int))) - (a0_1.size : Int))) < 0) = false := decide_eq_false c6
   clear c6
   obtain rfl := Option.some.inj H
   go_enter Tryd.func102, Tryd.ntmps102
   go_wp2_with (first | ((with_reducible refine zu (N := 2) rfl ?_); refine zy ?hg (N := 2) ?hd (cs := #[.string a0_0, .string a0_1, .int .i64 a0_2, .int .i64 a0_3, .int .i64 a0_4, .int .i64 a0_5, .int .i64 a0_6]) (t := 171) ?hr ?_; (case hd => rfl); (case hg => rfl); (case hr => first | (go_simp; done) | (go_simp; rfl)); intro zB hg w9 hbox hb; have n0_ := Aside0.mk (zn (by exact bl HB.out) hb); have n1_ := Aside0.mk (hbox); have n2_ := Aside0.mk ((by rw [hg]; exact (zm (by exact bl HB.out)) : w.heap.size ≤ zB)); have n3_ := Aside0.mk ((by rw [hg]; exact (zm (by exact bl HB.out)) : w.heap.size ≤ zB)); clear HB; have HB := n0_; have zA := n1_; have GW101 := n2_; have zC := n3_; clear n0_ n1_ n2_ n3_; clear hb hbox hg; have zD : w9.cell? ⟨zB, 0, none⟩ = some (.string a0_0) := (zc zA.out 0).trans rfl; have zE : w9.cell? ⟨zB, 1, none⟩ = some (.string a0_1) := (zc zA.out 1).trans rfl; have zF : w9.cell? ⟨zB, 2, none⟩ = some (.int .i64 a0_2) := (zc zA.out 2).trans rfl; have zG : w9.cell? ⟨zB, 3, none⟩ = some (.int .i64 a0_3) := (zc zA.out 3).trans rfl; have zH : w9.cell? ⟨zB, 4, none⟩ = some (.int .i64 a0_4) := (zc zA.out 4).trans rfl; have zI : w9.cell? ⟨zB, 5, none⟩ = some (.int .i64 a0_5) := (zc zA.out 5).trans rfl; have zJ : w9.cell? ⟨zB, 6, none⟩ = some (.int .i64 a0_6) := (zc zA.out 6).trans rfl; have zK := ze zA.out 0; have zL := ze zA.out 1; have zM := ze zA.out 2; have zN := ze zA.out 3; have zO := ze zA.out 4; have zP := ze zA.out 5; have zQ := ze zA.out 6))
   go_ret
   exact ⟨by first | rfl | (simp [*] <;> rfl), by repeat (first | (with_reducible first | exact HB.out | apply zh | apply zf | apply zg | refine zd ?_ zC.out) | exact HB.out)⟩

def laws_szNodeS.l0 : Nat → List (S171) → Int → Int → Option (Int)
 | 0, _, _, _ => none
 | k + 1, x0, x1, x5 => if x5 < (x0.length : Int) then (if 0 ≤ x5 then ((laws_szNode.f ((rd_T171 x0 x5).f0) ((rd_T171 x0 x5).f1) ((rd_T171 x0 x5).f2) ((rd_T171 x0 x5).f3) ((rd_T171 x0 x5).f4) ((rd_T171 x0 x5).f5) ((rd_T171 x0 x5).f6) x1).bind fun t103 => (if t103 < 0 then (some (-1)) else (laws_szNodeS.l0 k x0 t103 (wrap64 (x5 + 1))))) else (none)) else (some x1)
def laws_szNodeS.f (k : Nat) (l0 : List (S171)) (a1 : Int) : Option (Int) := if (wrap64 (a1 - (l0.length : Int))) < 0 then (some (-1)) else (laws_szNodeS.l0 k l0 (wrap64 (a1 - (l0.length : Int))) 0)
theorem laws_szNodeS.mono_l : ∀ k, (∀ y0 y1 y2, LeO (laws_szNodeS.l0 k y0 y1 y2) (laws_szNodeS.l0 (k + 1) y0 y1 y2))
 | 0 => fun _ _ _ r h => by simp [laws_szNodeS.l0] at h
 | k + 1 => by
  have ih0 := laws_szNodeS.mono_l k
  ·intro y0 y1 y2
   unfold laws_szNodeS.l0
   repeat' first
   | (with_reducible exact ih0 _ _ _)
   | (with_reducible exact LeO.refl _)
   | (with_reducible exact LeO.none _)
   | (with_reducible refine LeO.ite ?_ ?_)
   | (with_reducible refine LeO.bind ?_ (fun _ => ?_))
   | exact ih0 _ _ _
   | exact LeO.none _
   | refine LeO.ite ?_ ?_
   | refine LeO.bind ?_ (fun _ => ?_)
theorem laws_szNodeS.mono : ∀ a0 a1 k, LeO (laws_szNodeS.f k a0 a1) (laws_szNodeS.f (k + 1) a0 a1) := by
 intro a0 a1 k
 have ih0 := laws_szNodeS.mono_l k
 unfold laws_szNodeS.f
 repeat' first
   | (with_reducible exact ih0 _ _ _)
   | (with_reducible exact LeO.refl _)
   | (with_reducible exact LeO.none _)
   | (with_reducible refine LeO.ite ?_ ?_)
   | (with_reducible refine LeO.bind ?_ (fun _ => ?_))
   | exact ih0 _ _ _
   | exact LeO.none _
   | refine LeO.ite ?_ ?_
   | refine LeO.bind ?_ (fun _ => ?_)
set_option maxHeartbeats 8000000 in
set_option maxRecDepth 100000 in
theorem laws_szNodeS.calls (k : Nat) (A0 : Option Addr) (c0 : Nat) (l0 : List (S171)) (a1 : Int) (r : Int) (w : World) (hr0 : Kd.C k171 w A0 l0.length l0) (hc0 : l0.length ≤ c0) (h : laws_szNodeS.f k l0 a1 = some r) :
  Calls Tryd.prog 56 #[.slice A0 l0.length c0, .int .i64 a1] w fun e w' => e = .returned (.int .i64 r) ∧ Below w.heap.size w w' := by
 have hu171 := Tryd.underlying171
 have HR0 := Aside0.mk hr0
 have HC0 := Aside0.mk hc0
 clear hr0 hc0
 have HB := Aside0.mk (Below.refl w.heap.size w)
 have H : (if (wrap64 (a1 - (l0.length : Int))) < 0 then (some (-1)) else (laws_szNodeS.l0 k l0 (wrap64 (a1 - (l0.length : Int))) 0)) = some r := h
 clear h
 by_cases c3 : (wrap64 (a1 - (l0.length : Int))) < 0
 ·rw [if_pos c3] at H
  have c3b0 : decide ((wrap64 (a1 - (l0.length : Int))) < 0) = true := decide_eq_true c3
  clear c3
  obtain rfl := Option.some.inj H
  go_enter Tryd.func56, Tryd.ntmps56
  go_wp2
  go_ret
  exact ⟨by first | rfl | (simp [*] <;> rfl), by repeat (first | (with_reducible first | exact HB.out | apply zh | apply zf | apply zg) | exact HB.out)⟩
 ·rw [if_neg c3] at H
  have c3b0 : decide ((wrap64 (a1 - (l0.length : Int))) < 0) = false := decide_eq_false c3
  clear c3
  have H' := Aside0.mk H
  clear H
  go_enter Tryd.func56, Tryd.ntmps56
  go_wp2
  go_loopg [1, 5] k (fun kq v1 v5 w' => ∃ (x1_1 : Int) (x5_1 : Int), v1 = .int .i64 x1_1 ∧ v5 = .int .i64 x5_1 ∧ Aside0 (laws_szNodeS.l0 kq l0 x1_1 x5_1 = some r) ∧ Aside0 (kq ≤ k) ∧ Aside0 (Below w.heap.size w w'))
  case atStart => exact ⟨(wrap64 (a1 - (l0.length : Int))), (0), (by first | rfl | (simp [*]; done)), (by first | rfl | (simp [*]; done)), H', ⟨Nat.le_refl _⟩, ⟨by repeat (first | (with_reducible first | exact HB.out | apply zh | apply zf | apply zg) | exact HB.out)⟩⟩
  case round =>
   clear H'
   try clear p2
   try clear c3
   try clear c3b0
   obtain ⟨x1_1, x5_1, rfl, rfl, HA, HK1, HB⟩ := hrel
   cases gk with
   | zero => exact absurd HA.out (by simp [laws_szNodeS.l0])
   | succ k1 =>
    have H := HA.out
    clear HA
    simp only [laws_szNodeS.l0] at H
    by_cases c4 : x5_1 < (l0.length : Int)
    ·rw [if_pos c4] at H
     have c4b0 : decide (x5_1 < (l0.length : Int)) = true := decide_eq_true c4
     clear c4
     by_cases c5 : 0 ≤ x5_1
     ·rw [if_pos c5] at H
      have c5b0 : decide (0 ≤ x5_1) = true := decide_eq_true c5
      clear c5
      replace H := Option.bind_eq_some_iff.mp H
      obtain ⟨t103, A60, H⟩ := H
      try dsimp only at H
      have A6 := Aside0.mk A60
      clear A60
      by_cases c7 : t103 < 0
      ·rw [if_pos c7] at H
       have c7b0 : decide (t103 < 0) = true := decide_eq_true c7
       clear c7
       obtain rfl := Option.some.inj H
       have p102 : 0 ≤ (x5_1 : Int) := of_decide_eq_true (by with_reducible assumption)
       have q102 : x5_1 < (l0.length : Int) := of_decide_eq_true (by with_reducible assumption)
       obtain ⟨ad102, e102, hx102_0, hx102_1, hx102_2, hx102_3, hx102_4, hx102_5, hx102_6⟩ := at_T171 (Kd.C_below HR0.out HB.out) x5_1 p102 q102
       cases e102
       replace p102 := eq_true p102
       replace q102 := eq_true q102
       go_wp2_with (first | ((with_reducible refine zr (f := 102) rfl ?_); refine zz (some 23) rfl rfl Tryd.func102 (by kernel_rfl) rfl #[.agg #[.string ((rd_T171 l0 x5_1).f0), .string ((rd_T171 l0 x5_1).f1), .int .i64 ((rd_T171 l0 x5_1).f2), .int .i64 ((rd_T171 l0 x5_1).f3), .int .i64 ((rd_T171 l0 x5_1).f4), .int .i64 ((rd_T171 l0 x5_1).f5), .int .i64 ((rd_T171 l0 x5_1).f6)], .int .i64 x1_1] rfl (by (try simp only [List.map_toArray, List.map_cons, List.map_nil]); first | done | rfl) ?_; (with_reducible refine (laws_szNode.calls ((rd_T171 l0 x5_1).f0) ((rd_T171 l0 x5_1).f1) ((rd_T171 l0 x5_1).f2) ((rd_T171 l0 x5_1).f3) ((rd_T171 l0 x5_1).f4) ((rd_T171 l0 x5_1).f5) ((rd_T171 l0 x5_1).f6) x1_1 t103 _ A6.out).mono ?_); rintro e w8 ⟨rfl, hb⟩; refine ⟨_, rfl, ?_⟩; have n0_ := Aside0.mk (zn (by exact bl HB.out) hb); clear HB; have HB := n0_; clear n0_; (try clear hb); (try clear hb2); (try clear hk); (try clear hi)))
       go_ret
       exact ⟨by first | rfl | (simp [*] <;> rfl), by repeat (first | (with_reducible first | exact HB.out | apply zh | apply zf | apply zg) | exact HB.out)⟩
      ·rw [if_neg c7] at H
       have c7b0 : decide (t103 < 0) = false := decide_eq_false c7
       clear c7
       have H' := Aside0.mk H
       clear H
       have p102 : 0 ≤ (x5_1 : Int) := of_decide_eq_true (by with_reducible assumption)
       have q102 : x5_1 < (l0.length : Int) := of_decide_eq_true (by with_reducible assumption)
       obtain ⟨ad102, e102, hx102_0, hx102_1, hx102_2, hx102_3, hx102_4, hx102_5, hx102_6⟩ := at_T171 (Kd.C_below HR0.out HB.out) x5_1 p102 q102
       cases e102
       replace p102 := eq_true p102
       replace q102 := eq_true q102
       go_wp2_with (first | ((with_reducible refine zr (f := 102) rfl ?_); refine zz (some 23) rfl rfl Tryd.func102 (by kernel_rfl) rfl #[.agg #[.string ((rd_T171 l0 x5_1).f0), .string ((rd_T171 l0 x5_1).f1), .int .i64 ((rd_T171 l0 x5_1).f2), .int .i64 ((rd_T171 l0 x5_1).f3), .int .i64 ((rd_T171 l0 x5_1).f4), .int .i64 ((rd_T171 l0 x5_1).f5), .int .i64 ((rd_T171 l0 x5_1).f6)], .int .i64 x1_1] rfl (by (try simp only [List.map_toArray, List.map_cons, List.map_nil]); first | done | rfl) ?_; (with_reducible refine (laws_szNode.calls ((rd_T171 l0 x5_1).f0) ((rd_T171 l0 x5_1).f1) ((rd_T171 l0 x5_1).f2) ((rd_T171 l0 x5_1).f3) ((rd_T171 l0 x5_1).f4) ((rd_T171 l0 x5_1).f5) ((rd_T171 l0 x5_1).f6) x1_1 t103 _ A6.out).mono ?_); rintro e w9 ⟨rfl, hb⟩; refine ⟨_, rfl, ?_⟩; have n0_ := Aside0.mk (zn (by exact bl HB.out) hb); clear HB; have HB := n0_; clear n0_; (try clear hb); (try clear hb2); (try clear hk); (try clear hi)))
       go_roundg k1
       case measure => have := HK1.out; omega
       case rel => exact ⟨(t103), (wrap64 (x5_1 + 1)), (by first | rfl | (simp [*]; done)), (by first | rfl | (simp [*]; done)), H', ⟨by have := HK1.out; omega⟩, ⟨by repeat (first | (with_reducible first | exact HB.out | apply zh | apply zf | apply zg) | exact HB.out)⟩⟩
     ·rw [if_neg c5] at H
      exact absurd H (by simp)
    ·rw [if_neg c4] at H
     have c4b0 : decide (x5_1 < (l0.length : Int)) = false := decide_eq_false c4
     clear c4
     obtain rfl := Option.some.inj H
     go_wp2
     go_ret
     exact ⟨by first | rfl | (simp [*] <;> rfl), by repeat (first | (with_reducible first | exact HB.out | apply zh | apply zf | apply zg) | exact HB.out)⟩

def laws_szTree.f (k : Nat) (l0_0 : List (S171)) (a1 : Int) : Option (Int) := (laws_szNodeS.f k l0_0 a1).bind fun t105 => (if t105 < 0 then (some (-1)) else (some t105))
theorem laws_szTree.mono : ∀ a0 a1 k, LeO (laws_szTree.f k a0 a1) (laws_szTree.f (k + 1) a0 a1) := by
 intro a0 a1 k
 unfold laws_szTree.f
 repeat' first
   | (with_reducible exact laws_szNodeS.mono _ _ _)
   | (with_reducible exact LeO.refl _)
   | (with_reducible exact LeO.none _)
   | (with_reducible refine LeO.ite ?_ ?_)
   | (with_reducible refine LeO.bind ?_ (fun _ => ?_))
   | exact laws_szNodeS.mono _ _ _
   | exact LeO.none _
   | refine LeO.ite ?_ ?_
   | refine LeO.bind ?_ (fun _ => ?_)
set_option maxHeartbeats 8000000 in
set_option maxRecDepth 100000 in
theorem laws_szTree.calls (k : Nat) (A0_0 : Option Addr) (c0_0 : Nat) (l0_0 : List (S171)) (a1 : Int) (r : Int) (w : World) (hr0_0 : Kd.C k171 w A0_0 l0_0.length l0_0) (hc0_0 : l0_0.length ≤ c0_0) (h : laws_szTree.f k l0_0 a1 = some r) :
  Calls Tryd.prog 16 #[.agg #[.slice A0_0 l0_0.length c0_0], .int .i64 a1] w fun e w' => e = .returned (.int .i64 r) ∧ Below w.heap.size w w' := by
 have hu45 := Tryd.underlying45
 have HR0_0 := Aside0.mk hr0_0
 have HC0_0 := Aside0.mk hc0_0
 clear hr0_0 hc0_0
 have HB := Aside0.mk (Below.refl w.heap.size w)
 have H : ((laws_szNodeS.f k l0_0 a1).bind fun t105 => (if t105 < 0 then (some (-1)) else (some t105))) = some r := h
 clear h
 replace H := Option.bind_eq_some_iff.mp H
 obtain ⟨t105, A30, H⟩ := H
 try dsimp only at H
 have A3 := Aside0.mk A30
 clear A30
 by_cases c4 : t105 < 0
 ·rw [if_pos c4] at H
  have c4b0 : decide (t105 < 0) = true := decide_eq_true c4
  clear c4
  obtain rfl := Option.some.inj H
  go_enter Tryd.func16, Tryd.ntmps16
  go_wp2_with (first | ((with_reducible refine zu (N := 2) rfl ?_); refine zy ?hg (N := 2) ?hd (cs := #[.slice A0_0 l0_0.length c0_0]) (t := 45) ?hr ?_; (case hd => rfl); (case hg => rfl); (case hr => first | (go_simp; done) | (go_simp; rfl)); intro zB hg w5 hbox hb; have n0_ := Aside0.mk (zn (by exact bl HB.out) hb); have n1_ := Aside0.mk (hbox); have n2_ := Aside0.mk ((by rw [hg]; exact (zm (by exact bl HB.out)) : w.heap.size ≤ zB)); have n3_ := Aside0.mk ((by rw [hg]; exact (zm (by exact bl HB.out)) : w.heap.size ≤ zB)); clear HB; have HB := n0_; have zA := n1_; have GW104 := n2_; have zC := n3_; clear n0_ n1_ n2_ n3_; clear hb hbox hg; have zD : w5.cell? ⟨zB, 0, none⟩ = some (.slice A0_0 l0_0.length c0_0) := (zc zA.out 0).trans rfl; have zE := ze zA.out 0) | ((with_reducible refine zr (f := 56) rfl ?_); refine zz (some 8) rfl rfl Tryd.func56 (by kernel_rfl) rfl #[.slice A0_0 l0_0.length c0_0, .int .i64 a1] rfl (by (try simp only [List.map_toArray, List.map_cons, List.map_nil]); first | done | rfl) ?_; (with_reducible refine (laws_szNodeS.calls k _ _ l0_0 a1 t105 _ ?side1 ?side2 A3.out).mono ?_); (case side1 => repeat (first | exact (Kd.C_below HR0_0.out HB.out) | (with_reducible refine Kd.C_alloc ?_ _) | (with_reducible refine Kd.C_drewN ?_ _) | (with_reducible refine Kd.C_drew ?_))); (case side2 => exact HC0_0.out); rintro e w7 ⟨rfl, hb⟩; refine ⟨_, rfl, ?_⟩; have n0_ := Aside0.mk (zi (g := zB) (o := .cells #[.slice A0_0 l0_0.length c0_0] 45 (0, 0)) (BL zA.out) hb); have n1_ := Aside0.mk (zn (by exact bl HB.out) hb); clear zA; clear HB; have zA := n0_; have HB := n1_; clear n0_ n1_; (try clear hb); (try clear hb2); (try clear hk); (try clear hi)))
  go_ret
  exact ⟨by first | rfl | (simp [*] <;> rfl), by repeat (first | (with_reducible first | exact HB.out | apply zh | apply zf | apply zg | refine zd ?_ zC.out) | exact HB.out)⟩
 ·rw [if_neg c4] at H
  have c4b0 : decide (t105 < 0) = false := decide_eq_false c4
  clear c4
  obtain rfl := Option.some.inj H
  go_enter Tryd.func16, Tryd.ntmps16
  go_wp2_with (first | ((with_reducible refine zu (N := 2) rfl ?_); refine zy ?hg (N := 2) ?hd (cs := #[.slice A0_0 l0_0.length c0_0]) (t := 45) ?hr ?_; (case hd => rfl); (case hg => rfl); (case hr => first | (go_simp; done) | (go_simp; rfl)); intro zB hg w8 hbox hb; have n0_ := Aside0.mk (zn (by exact bl HB.out) hb); have n1_ := Aside0.mk (hbox); have n2_ := Aside0.mk ((by rw [hg]; exact (zm (by exact bl HB.out)) : w.heap.size ≤ zB)); have n3_ := Aside0.mk ((by rw [hg]; exact (zm (by exact bl HB.out)) : w.heap.size ≤ zB)); clear HB; have HB := n0_; have zA := n1_; have GW104 := n2_; have zC := n3_; clear n0_ n1_ n2_ n3_; clear hb hbox hg; have zF : w8.cell? ⟨zB, 0, none⟩ = some (.slice A0_0 l0_0.length c0_0) := (zc zA.out 0).trans rfl; have zG := ze zA.out 0) | ((with_reducible refine zr (f := 56) rfl ?_); refine zz (some 8) rfl rfl Tryd.func56 (by kernel_rfl) rfl #[.slice A0_0 l0_0.length c0_0, .int .i64 a1] rfl (by (try simp only [List.map_toArray, List.map_cons, List.map_nil]); first | done | rfl) ?_; (with_reducible refine (laws_szNodeS.calls k _ _ l0_0 a1 t105 _ ?side1 ?side2 A3.out).mono ?_); (case side1 => repeat (first | exact (Kd.C_below HR0_0.out HB.out) | (with_reducible refine Kd.C_alloc ?_ _) | (with_reducible refine Kd.C_drewN ?_ _) | (with_reducible refine Kd.C_drew ?_))); (case side2 => exact HC0_0.out); rintro e w10 ⟨rfl, hb⟩; refine ⟨_, rfl, ?_⟩; have n0_ := Aside0.mk (zi (g := zB) (o := .cells #[.slice A0_0 l0_0.length c0_0] 45 (0, 0)) (BL zA.out) hb); have n1_ := Aside0.mk (zn (by exact bl HB.out) hb); clear zA; clear HB; have zA := n0_; have HB := n1_; clear n0_ n1_; (try clear hb); (try clear hb2); (try clear hk); (try clear hi)))
  go_ret
  exact ⟨by first | rfl | (simp [*] <;> rfl), by repeat (first | (with_reducible first | exact HB.out | apply zh | apply zf | apply zg | refine zd ?_ zC.out) | exact HB.out)⟩

def laws_szEffect.f (a0_0 : Bool) (a0_1 : ByteArray) (a0_2 : ByteArray) (a0_3 : Int) (a0_4 : Int) (a0_5 : Int) (a0_6 : Int) (a0_7 : Int) (a1 : Int) : Option (Int) := (laws_szNode.f a0_1 a0_2 a0_3 a0_4 a0_5 a0_6 a0_7 a1).bind fun t107 => (if t107 < 0 then (some (-1)) else (some t107))
set_option maxHeartbeats 8000000 in
set_option maxRecDepth 100000 in
theorem laws_szEffect.calls (a0_0 : Bool) (a0_1 : ByteArray) (a0_2 : ByteArray) (a0_3 : Int) (a0_4 : Int) (a0_5 : Int) (a0_6 : Int) (a0_7 : Int) (a1 : Int) (r : Int) (w : World) (h : laws_szEffect.f a0_0 a0_1 a0_2 a0_3 a0_4 a0_5 a0_6 a0_7 a1 = some r) :
  Calls Tryd.prog 103 #[.agg #[.bool a0_0, .string a0_1, .string a0_2, .int .i64 a0_3, .int .i64 a0_4, .int .i64 a0_5, .int .i64 a0_6, .int .i64 a0_7], .int .i64 a1] w fun e w' => e = .returned (.int .i64 r) ∧ Below w.heap.size w w' := by
 have hu174 := Tryd.underlying174
 have hu171 := Tryd.underlying171
 have HB := Aside0.mk (Below.refl w.heap.size w)
 have H : ((laws_szNode.f a0_1 a0_2 a0_3 a0_4 a0_5 a0_6 a0_7 a1).bind fun t107 => (if t107 < 0 then (some (-1)) else (some t107))) = some r := h
 clear h
 replace H := Option.bind_eq_some_iff.mp H
 obtain ⟨t107, A30, H⟩ := H
 try dsimp only at H
 have A3 := Aside0.mk A30
 clear A30
 by_cases c4 : t107 < 0
 ·rw [if_pos c4] at H
  have c4b0 : decide (t107 < 0) = true := decide_eq_true c4
  clear c4
  obtain rfl := Option.some.inj H
  go_enter Tryd.func103, Tryd.ntmps103
  go_wp2_with (first | ((with_reducible refine zu (N := 2) rfl ?_); refine zy ?hg (N := 2) ?hd (cs := #[.bool a0_0, .string a0_1, .string a0_2, .int .i64 a0_3, .int .i64 a0_4, .int .i64 a0_5, .int .i64 a0_6, .int .i64 a0_7]) (t := 174) ?hr ?_; (case hd => rfl); (case hg => rfl); (case hr => first | (go_simp; done) | (go_simp; rfl)); intro zB hg w5 hbox hb; have n0_ := Aside0.mk (zn (by exact bl HB.out) hb); have n1_ := Aside0.mk (hbox); have n2_ := Aside0.mk ((by rw [hg]; exact (zm (by exact bl HB.out)) : w.heap.size ≤ zB)); have n3_ := Aside0.mk ((by rw [hg]; exact (zm (by exact bl HB.out)) : w.heap.size ≤ zB)); clear HB; have HB := n0_; have zA := n1_; have GW106 := n2_; have zC := n3_; clear n0_ n1_ n2_ n3_; clear hb hbox hg; have zD : w5.cell? ⟨zB, 0, none⟩ = some (.bool a0_0) := (zc zA.out 0).trans rfl; have zE : w5.cell? ⟨zB, 1, none⟩ = some (.string a0_1) := (zc zA.out 1).trans rfl; have zF : w5.cell? ⟨zB, 2, none⟩ = some (.string a0_2) := (zc zA.out 2).trans rfl; have zG : w5.cell? ⟨zB, 3, none⟩ = some (.int .i64 a0_3) := (zc zA.out 3).trans rfl; have zH : w5.cell? ⟨zB, 4, none⟩ = some (.int .i64 a0_4) := (zc zA.out 4).trans rfl; have zI : w5.cell? ⟨zB, 5, none⟩ = some (.int .i64 a0_5) := (zc zA.out 5).trans rfl; have zJ : w5.cell? ⟨zB, 6, none⟩ = some (.int .i64 a0_6) := (zc zA.out 6).trans rfl; have zK : w5.cell? ⟨zB, 7, none⟩ = some (.int .i64 a0_7) := (zc zA.out 7).trans rfl; have zL := ze zA.out 0; have zM := ze zA.out 1; have zN := ze zA.out 2; have zO := ze zA.out 3; have zP := ze zA.out 4; have zQ := ze zA.out 5; have zR := ze zA.out 6; have zS := ze zA.out 7) | ((with_reducible refine zr (f := 102) rfl ?_); refine zz (some 8) rfl rfl Tryd.func102 (by kernel_rfl) rfl #[.agg #[.string a0_1, .string a0_2, .int .i64 a0_3, .int .i64 a0_4, .int .i64 a0_5, .int .i64 a0_6, .int .i64 a0_7], .int .i64 a1] rfl (by (try simp only [List.map_toArray, List.map_cons, List.map_nil]); first | done | rfl) ?_; (with_reducible refine (laws_szNode.calls a0_1 a0_2 a0_3 a0_4 a0_5 a0_6 a0_7 a1 t107 _ A3.out).mono ?_); rintro e w7 ⟨rfl, hb⟩; refine ⟨_, rfl, ?_⟩; have n0_ := Aside0.mk (zi (g := zB) (o := .cells #[.bool a0_0, .string a0_1, .string a0_2, .int .i64 a0_3, .int .i64 a0_4, .int .i64 a0_5, .int .i64 a0_6, .int .i64 a0_7] 174 (0, 0)) (BL zA.out) hb); have n1_ := Aside0.mk (zn (by exact bl HB.out) hb); clear zA; clear HB; have zA := n0_; have HB := n1_; clear n0_ n1_; (try clear hb); (try clear hb2); (try clear hk); (try clear hi)))
  go_ret
  exact ⟨by first | rfl | (simp [*] <;> rfl), by repeat (first | (with_reducible first | exact HB.out | apply zh | apply zf | apply zg | refine zd ?_ zC.out) | exact HB.out)⟩
 ·rw [if_neg c4] at H
  have c4b0 : decide (t107 < 0) = false := decide_eq_false c4
  clear c4
  obtain rfl := Option.some.inj H
  go_enter Tryd.func103, Tryd.ntmps103
  go_wp2_with (first | ((with_reducible refine zu (N := 2) rfl ?_); refine zy ?hg (N := 2) ?hd (cs := #[.bool a0_0, .string a0_1, .string a0_2, .int .i64 a0_3, .int .i64 a0_4, .int .i64 a0_5, .int .i64 a0_6, .int .i64 a0_7]) (t := 174) ?hr ?_; (case hd => rfl); (case hg => rfl); (case hr => first | (go_simp; done) | (go_simp; rfl)); intro zB hg w8 hbox hb; have n0_ := Aside0.mk (zn (by exact bl HB.out) hb); have n1_ := Aside0.mk (hbox); have n2_ := Aside0.mk ((by rw [hg]; exact (zm (by exact bl HB.out)) : w.heap.size ≤ zB)); have n3_ := Aside0.mk ((by rw [hg]; exact (zm (by exact bl HB.out)) : w.heap.size ≤ zB)); clear HB; have HB := n0_; have zA := n1_; have GW106 := n2_; have zC := n3_; clear n0_ n1_ n2_ n3_; clear hb hbox hg; have zT : w8.cell? ⟨zB, 0, none⟩ = some (.bool a0_0) := (zc zA.out 0).trans rfl; have zU : w8.cell? ⟨zB, 1, none⟩ = some (.string a0_1) := (zc zA.out 1).trans rfl; have zV : w8.cell? ⟨zB, 2, none⟩ = some (.string a0_2) := (zc zA.out 2).trans rfl; have zW : w8.cell? ⟨zB, 3, none⟩ = some (.int .i64 a0_3) := (zc zA.out 3).trans rfl; have zX : w8.cell? ⟨zB, 4, none⟩ = some (.int .i64 a0_4) := (zc zA.out 4).trans rfl; have zY : w8.cell? ⟨zB, 5, none⟩ = some (.int .i64 a0_5) := (zc zA.out 5).trans rfl; have zZ : w8.cell? ⟨zB, 6, none⟩ = some (.int .i64 a0_6) := (zc zA.out 6).trans rfl; have zab : w8.cell? ⟨zB, 7, none⟩ = some (.int .i64 a0_7) := (zc zA.out 7).trans rfl; have zbb := ze zA.out 0; have zcb := ze zA.out 1; have zdb := ze zA.out 2; have zeb := ze zA.out 3; have zfb := ze zA.out 4; have zgb := ze zA.out 5; have zhb := ze zA.out 6; have zib := ze zA.out 7) | ((with_reducible refine zr (f := 102) rfl ?_); refine zz (some 8) rfl rfl Tryd.func102 (by kernel_rfl) rfl #[.agg #[.string a0_1, .string a0_2, .int .i64 a0_3, .int .i64 a0_4, .int .i64 a0_5, .int .i64 a0_6, .int .i64 a0_7], .int .i64 a1] rfl (by (try simp only [List.map_toArray, List.map_cons, List.map_nil]); first | done | rfl) ?_; (with_reducible refine (laws_szNode.calls a0_1 a0_2 a0_3 a0_4 a0_5 a0_6 a0_7 a1 t107 _ A3.out).mono ?_); rintro e w10 ⟨rfl, hb⟩; refine ⟨_, rfl, ?_⟩; have n0_ := Aside0.mk (zi (g := zB) (o := .cells #[.bool a0_0, .string a0_1, .string a0_2, .int .i64 a0_3, .int .i64 a0_4, .int .i64 a0_5, .int .i64 a0_6, .int .i64 a0_7] 174 (0, 0)) (BL zA.out) hb); have n1_ := Aside0.mk (zn (by exact bl HB.out) hb); clear zA; clear HB; have zA := n0_; have HB := n1_; clear n0_ n1_; (try clear hb); (try clear hb2); (try clear hk); (try clear hi)))
  go_ret
  exact ⟨by first | rfl | (simp [*] <;> rfl), by repeat (first | (with_reducible first | exact HB.out | apply zh | apply zf | apply zg | refine zd ?_ zC.out) | exact HB.out)⟩

def laws_szEffectS.l0 : Nat → List (S174) → Int → Int → Option (Int)
 | 0, _, _, _ => none
 | k + 1, x0, x1, x5 => if x5 < (x0.length : Int) then (if 0 ≤ x5 then ((laws_szEffect.f ((rd_T174 x0 x5).f0) ((rd_T174 x0 x5).f1.f0) ((rd_T174 x0 x5).f1.f1) ((rd_T174 x0 x5).f1.f2) ((rd_T174 x0 x5).f1.f3) ((rd_T174 x0 x5).f1.f4) ((rd_T174 x0 x5).f1.f5) ((rd_T174 x0 x5).f1.f6) x1).bind fun t109 => (if t109 < 0 then (some (-1)) else (laws_szEffectS.l0 k x0 t109 (wrap64 (x5 + 1))))) else (none)) else (some x1)
def laws_szEffectS.f (k : Nat) (l0 : List (S174)) (a1 : Int) : Option (Int) := if (wrap64 (a1 - (l0.length : Int))) < 0 then (some (-1)) else (laws_szEffectS.l0 k l0 (wrap64 (a1 - (l0.length : Int))) 0)
theorem laws_szEffectS.mono_l : ∀ k, (∀ y0 y1 y2, LeO (laws_szEffectS.l0 k y0 y1 y2) (laws_szEffectS.l0 (k + 1) y0 y1 y2))
 | 0 => fun _ _ _ r h => by simp [laws_szEffectS.l0] at h
 | k + 1 => by
  have ih0 := laws_szEffectS.mono_l k
  ·intro y0 y1 y2
   unfold laws_szEffectS.l0
   repeat' first
   | (with_reducible exact ih0 _ _ _)
   | (with_reducible exact LeO.refl _)
   | (with_reducible exact LeO.none _)
   | (with_reducible refine LeO.ite ?_ ?_)
   | (with_reducible refine LeO.bind ?_ (fun _ => ?_))
   | exact ih0 _ _ _
   | exact LeO.none _
   | refine LeO.ite ?_ ?_
   | refine LeO.bind ?_ (fun _ => ?_)
theorem laws_szEffectS.mono : ∀ a0 a1 k, LeO (laws_szEffectS.f k a0 a1) (laws_szEffectS.f (k + 1) a0 a1) := by
 intro a0 a1 k
 have ih0 := laws_szEffectS.mono_l k
 unfold laws_szEffectS.f
 repeat' first
   | (with_reducible exact ih0 _ _ _)
   | (with_reducible exact LeO.refl _)
   | (with_reducible exact LeO.none _)
   | (with_reducible refine LeO.ite ?_ ?_)
   | (with_reducible refine LeO.bind ?_ (fun _ => ?_))
   | exact ih0 _ _ _
   | exact LeO.none _
   | refine LeO.ite ?_ ?_
   | refine LeO.bind ?_ (fun _ => ?_)
set_option maxHeartbeats 8000000 in
set_option maxRecDepth 100000 in
theorem laws_szEffectS.calls (k : Nat) (A0 : Option Addr) (c0 : Nat) (l0 : List (S174)) (a1 : Int) (r : Int) (w : World) (hr0 : Kd.C k174 w A0 l0.length l0) (hc0 : l0.length ≤ c0) (h : laws_szEffectS.f k l0 a1 = some r) :
  Calls Tryd.prog 57 #[.slice A0 l0.length c0, .int .i64 a1] w fun e w' => e = .returned (.int .i64 r) ∧ Below w.heap.size w w' := by
 have hu174 := Tryd.underlying174
 have HR0 := Aside0.mk hr0
 have HC0 := Aside0.mk hc0
 clear hr0 hc0
 have HB := Aside0.mk (Below.refl w.heap.size w)
 have H : (if (wrap64 (a1 - (l0.length : Int))) < 0 then (some (-1)) else (laws_szEffectS.l0 k l0 (wrap64 (a1 - (l0.length : Int))) 0)) = some r := h
 clear h
 by_cases c3 : (wrap64 (a1 - (l0.length : Int))) < 0
 ·rw [if_pos c3] at H
  have c3b0 : decide ((wrap64 (a1 - (l0.length : Int))) < 0) = true := decide_eq_true c3
  clear c3
  obtain rfl := Option.some.inj H
  go_enter Tryd.func57, Tryd.ntmps57
  go_wp2
  go_ret
  exact ⟨by first | rfl | (simp [*] <;> rfl), by repeat (first | (with_reducible first | exact HB.out | apply zh | apply zf | apply zg) | exact HB.out)⟩
 ·rw [if_neg c3] at H
  have c3b0 : decide ((wrap64 (a1 - (l0.length : Int))) < 0) = false := decide_eq_false c3
  clear c3
  have H' := Aside0.mk H
  clear H
  go_enter Tryd.func57, Tryd.ntmps57
  go_wp2
  go_loopg [1, 5] k (fun kq v1 v5 w' => ∃ (x1_1 : Int) (x5_1 : Int), v1 = .int .i64 x1_1 ∧ v5 = .int .i64 x5_1 ∧ Aside0 (laws_szEffectS.l0 kq l0 x1_1 x5_1 = some r) ∧ Aside0 (kq ≤ k) ∧ Aside0 (Below w.heap.size w w'))
  case atStart => exact ⟨(wrap64 (a1 - (l0.length : Int))), (0), (by first | rfl | (simp [*]; done)), (by first | rfl | (simp [*]; done)), H', ⟨Nat.le_refl _⟩, ⟨by repeat (first | (with_reducible first | exact HB.out | apply zh | apply zf | apply zg) | exact HB.out)⟩⟩
  case round =>
   clear H'
   try clear p2
   try clear c3
   try clear c3b0
   obtain ⟨x1_1, x5_1, rfl, rfl, HA, HK1, HB⟩ := hrel
   cases gk with
   | zero => exact absurd HA.out (by simp [laws_szEffectS.l0])
   | succ k1 =>
    have H := HA.out
    clear HA
    simp only [laws_szEffectS.l0] at H
    by_cases c4 : x5_1 < (l0.length : Int)
    ·rw [if_pos c4] at H
     have c4b0 : decide (x5_1 < (l0.length : Int)) = true := decide_eq_true c4
     clear c4
     by_cases c5 : 0 ≤ x5_1
     ·rw [if_pos c5] at H
      have c5b0 : decide (0 ≤ x5_1) = true := decide_eq_true c5
      clear c5
      replace H := Option.bind_eq_some_iff.mp H
      obtain ⟨t109, A60, H⟩ := H
      try dsimp only at H
      have A6 := Aside0.mk A60
      clear A60
      by_cases c7 : t109 < 0
      ·rw [if_pos c7] at H
       have c7b0 : decide (t109 < 0) = true := decide_eq_true c7
       clear c7
       obtain rfl := Option.some.inj H
       have p108 : 0 ≤ (x5_1 : Int) := of_decide_eq_true (by with_reducible assumption)
       have q108 : x5_1 < (l0.length : Int) := of_decide_eq_true (by with_reducible assumption)
       obtain ⟨ad108, e108, hx108_0, hx108_1, hx108_2, hx108_3, hx108_4, hx108_5, hx108_6, hx108_7⟩ := at_T174 (Kd.C_below HR0.out HB.out) x5_1 p108 q108
       cases e108
       replace p108 := eq_true p108
       replace q108 := eq_true q108
       go_wp2_with (first | ((with_reducible refine zr (f := 103) rfl ?_); refine zz (some 23) rfl rfl Tryd.func103 (by kernel_rfl) rfl #[.agg #[.bool ((rd_T174 l0 x5_1).f0), .string ((rd_T174 l0 x5_1).f1.f0), .string ((rd_T174 l0 x5_1).f1.f1), .int .i64 ((rd_T174 l0 x5_1).f1.f2), .int .i64 ((rd_T174 l0 x5_1).f1.f3), .int .i64 ((rd_T174 l0 x5_1).f1.f4), .int .i64 ((rd_T174 l0 x5_1).f1.f5), .int .i64 ((rd_T174 l0 x5_1).f1.f6)], .int .i64 x1_1] rfl (by (try simp only [List.map_toArray, List.map_cons, List.map_nil]); first | done | rfl) ?_; (with_reducible refine (laws_szEffect.calls ((rd_T174 l0 x5_1).f0) ((rd_T174 l0 x5_1).f1.f0) ((rd_T174 l0 x5_1).f1.f1) ((rd_T174 l0 x5_1).f1.f2) ((rd_T174 l0 x5_1).f1.f3) ((rd_T174 l0 x5_1).f1.f4) ((rd_T174 l0 x5_1).f1.f5) ((rd_T174 l0 x5_1).f1.f6) x1_1 t109 _ A6.out).mono ?_); rintro e w8 ⟨rfl, hb⟩; refine ⟨_, rfl, ?_⟩; have n0_ := Aside0.mk (zn (by exact bl HB.out) hb); clear HB; have HB := n0_; clear n0_; (try clear hb); (try clear hb2); (try clear hk); (try clear hi)))
       go_ret
       exact ⟨by first | rfl | (simp [*] <;> rfl), by repeat (first | (with_reducible first | exact HB.out | apply zh | apply zf | apply zg) | exact HB.out)⟩
      ·rw [if_neg c7] at H
       have c7b0 : decide (t109 < 0) = false := decide_eq_false c7
       clear c7
       have H' := Aside0.mk H
       clear H
       have p108 : 0 ≤ (x5_1 : Int) := of_decide_eq_true (by with_reducible assumption)
       have q108 : x5_1 < (l0.length : Int) := of_decide_eq_true (by with_reducible assumption)
       obtain ⟨ad108, e108, hx108_0, hx108_1, hx108_2, hx108_3, hx108_4, hx108_5, hx108_6, hx108_7⟩ := at_T174 (Kd.C_below HR0.out HB.out) x5_1 p108 q108
       cases e108
       replace p108 := eq_true p108
       replace q108 := eq_true q108
       go_wp2_with (first | ((with_reducible refine zr (f := 103) rfl ?_); refine zz (some 23) rfl rfl Tryd.func103 (by kernel_rfl) rfl #[.agg #[.bool ((rd_T174 l0 x5_1).f0), .string ((rd_T174 l0 x5_1).f1.f0), .string ((rd_T174 l0 x5_1).f1.f1), .int .i64 ((rd_T174 l0 x5_1).f1.f2), .int .i64 ((rd_T174 l0 x5_1).f1.f3), .int .i64 ((rd_T174 l0 x5_1).f1.f4), .int .i64 ((rd_T174 l0 x5_1).f1.f5), .int .i64 ((rd_T174 l0 x5_1).f1.f6)], .int .i64 x1_1] rfl (by (try simp only [List.map_toArray, List.map_cons, List.map_nil]); first | done | rfl) ?_; (with_reducible refine (laws_szEffect.calls ((rd_T174 l0 x5_1).f0) ((rd_T174 l0 x5_1).f1.f0) ((rd_T174 l0 x5_1).f1.f1) ((rd_T174 l0 x5_1).f1.f2) ((rd_T174 l0 x5_1).f1.f3) ((rd_T174 l0 x5_1).f1.f4) ((rd_T174 l0 x5_1).f1.f5) ((rd_T174 l0 x5_1).f1.f6) x1_1 t109 _ A6.out).mono ?_); rintro e w9 ⟨rfl, hb⟩; refine ⟨_, rfl, ?_⟩; have n0_ := Aside0.mk (zn (by exact bl HB.out) hb); clear HB; have HB := n0_; clear n0_; (try clear hb); (try clear hb2); (try clear hk); (try clear hi)))
       go_roundg k1
       case measure => have := HK1.out; omega
       case rel => exact ⟨(t109), (wrap64 (x5_1 + 1)), (by first | rfl | (simp [*]; done)), (by first | rfl | (simp [*]; done)), H', ⟨by have := HK1.out; omega⟩, ⟨by repeat (first | (with_reducible first | exact HB.out | apply zh | apply zf | apply zg) | exact HB.out)⟩⟩
     ·rw [if_neg c5] at H
      exact absurd H (by simp)
    ·rw [if_neg c4] at H
     have c4b0 : decide (x5_1 < (l0.length : Int)) = false := decide_eq_false c4
     clear c4
     obtain rfl := Option.some.inj H
     go_wp2
     go_ret
     exact ⟨by first | rfl | (simp [*] <;> rfl), by repeat (first | (with_reducible first | exact HB.out | apply zh | apply zf | apply zg) | exact HB.out)⟩

def laws_szTxn.f (k : Nat) (a0_0 : Int) (l0_1 : List (S174)) (a1 : Int) : Option (Int) := (laws_szEffectS.f k l0_1 a1).bind fun t111 => (if t111 < 0 then (some (-1)) else (some t111))
theorem laws_szTxn.mono : ∀ a0 a1 a2 k, LeO (laws_szTxn.f k a0 a1 a2) (laws_szTxn.f (k + 1) a0 a1 a2) := by
 intro a0 a1 a2 k
 unfold laws_szTxn.f
 repeat' first
   | (with_reducible exact laws_szEffectS.mono _ _ _)
   | (with_reducible exact LeO.refl _)
   | (with_reducible exact LeO.none _)
   | (with_reducible refine LeO.ite ?_ ?_)
   | (with_reducible refine LeO.bind ?_ (fun _ => ?_))
   | exact laws_szEffectS.mono _ _ _
   | exact LeO.none _
   | refine LeO.ite ?_ ?_
   | refine LeO.bind ?_ (fun _ => ?_)
set_option maxHeartbeats 8000000 in
set_option maxRecDepth 100000 in
theorem laws_szTxn.calls (k : Nat) (a0_0 : Int) (A0_1 : Option Addr) (c0_1 : Nat) (l0_1 : List (S174)) (a1 : Int) (r : Int) (w : World) (hr0_1 : Kd.C k174 w A0_1 l0_1.length l0_1) (hc0_1 : l0_1.length ≤ c0_1) (h : laws_szTxn.f k a0_0 l0_1 a1 = some r) :
  Calls Tryd.prog 17 #[.agg #[.int .i64 a0_0, .slice A0_1 l0_1.length c0_1], .int .i64 a1] w fun e w' => e = .returned (.int .i64 r) ∧ Below w.heap.size w w' := by
 have hu48 := Tryd.underlying48
 have HR0_1 := Aside0.mk hr0_1
 have HC0_1 := Aside0.mk hc0_1
 clear hr0_1 hc0_1
 have HB := Aside0.mk (Below.refl w.heap.size w)
 have H : ((laws_szEffectS.f k l0_1 a1).bind fun t111 => (if t111 < 0 then (some (-1)) else (some t111))) = some r := h
 clear h
 replace H := Option.bind_eq_some_iff.mp H
 obtain ⟨t111, A30, H⟩ := H
 try dsimp only at H
 have A3 := Aside0.mk A30
 clear A30
 by_cases c4 : t111 < 0
 ·rw [if_pos c4] at H
  have c4b0 : decide (t111 < 0) = true := decide_eq_true c4
  clear c4
  obtain rfl := Option.some.inj H
  go_enter Tryd.func17, Tryd.ntmps17
  go_wp2_with (first | ((with_reducible refine zu (N := 2) rfl ?_); refine zy ?hg (N := 2) ?hd (cs := #[.int .i64 a0_0, .slice A0_1 l0_1.length c0_1]) (t := 48) ?hr ?_; (case hd => rfl); (case hg => rfl); (case hr => first | (go_simp; done) | (go_simp; rfl)); intro zB hg w5 hbox hb; have n0_ := Aside0.mk (zn (by exact bl HB.out) hb); have n1_ := Aside0.mk (hbox); have n2_ := Aside0.mk ((by rw [hg]; exact (zm (by exact bl HB.out)) : w.heap.size ≤ zB)); have n3_ := Aside0.mk ((by rw [hg]; exact (zm (by exact bl HB.out)) : w.heap.size ≤ zB)); clear HB; have HB := n0_; have zA := n1_; have GW110 := n2_; have zC := n3_; clear n0_ n1_ n2_ n3_; clear hb hbox hg; have zD : w5.cell? ⟨zB, 0, none⟩ = some (.int .i64 a0_0) := (zc zA.out 0).trans rfl; have zE : w5.cell? ⟨zB, 1, none⟩ = some (.slice A0_1 l0_1.length c0_1) := (zc zA.out 1).trans rfl; have zF := ze zA.out 0; have zG := ze zA.out 1) | ((with_reducible refine zr (f := 57) rfl ?_); refine zz (some 8) rfl rfl Tryd.func57 (by kernel_rfl) rfl #[.slice A0_1 l0_1.length c0_1, .int .i64 a1] rfl (by (try simp only [List.map_toArray, List.map_cons, List.map_nil]); first | done | rfl) ?_; (with_reducible refine (laws_szEffectS.calls k _ _ l0_1 a1 t111 _ ?side1 ?side2 A3.out).mono ?_); (case side1 => repeat (first | exact (Kd.C_below HR0_1.out HB.out) | (with_reducible refine Kd.C_alloc ?_ _) | (with_reducible refine Kd.C_drewN ?_ _) | (with_reducible refine Kd.C_drew ?_))); (case side2 => exact HC0_1.out); rintro e w7 ⟨rfl, hb⟩; refine ⟨_, rfl, ?_⟩; have n0_ := Aside0.mk (zi (g := zB) (o := .cells #[.int .i64 a0_0, .slice A0_1 l0_1.length c0_1] 48 (0, 0)) (BL zA.out) hb); have n1_ := Aside0.mk (zn (by exact bl HB.out) hb); clear zA; clear HB; have zA := n0_; have HB := n1_; clear n0_ n1_; (try clear hb); (try clear hb2); (try clear hk); (try clear hi)))
  go_ret
  exact ⟨by first | rfl | (simp [*] <;> rfl), by repeat (first | (with_reducible first | exact HB.out | apply zh | apply zf | apply zg | refine zd ?_ zC.out) | exact HB.out)⟩
 ·rw [if_neg c4] at H
  have c4b0 : decide (t111 < 0) = false := decide_eq_false c4
  clear c4
  obtain rfl := Option.some.inj H
  go_enter Tryd.func17, Tryd.ntmps17
  go_wp2_with (first | ((with_reducible refine zu (N := 2) rfl ?_); refine zy ?hg (N := 2) ?hd (cs := #[.int .i64 a0_0, .slice A0_1 l0_1.length c0_1]) (t := 48) ?hr ?_; (case hd => rfl); (case hg => rfl); (case hr => first | (go_simp; done) | (go_simp; rfl)); intro zB hg w8 hbox hb; have n0_ := Aside0.mk (zn (by exact bl HB.out) hb); have n1_ := Aside0.mk (hbox); have n2_ := Aside0.mk ((by rw [hg]; exact (zm (by exact bl HB.out)) : w.heap.size ≤ zB)); have n3_ := Aside0.mk ((by rw [hg]; exact (zm (by exact bl HB.out)) : w.heap.size ≤ zB)); clear HB; have HB := n0_; have zA := n1_; have GW110 := n2_; have zC := n3_; clear n0_ n1_ n2_ n3_; clear hb hbox hg; have zH : w8.cell? ⟨zB, 0, none⟩ = some (.int .i64 a0_0) := (zc zA.out 0).trans rfl; have zI : w8.cell? ⟨zB, 1, none⟩ = some (.slice A0_1 l0_1.length c0_1) := (zc zA.out 1).trans rfl; have zJ := ze zA.out 0; have zK := ze zA.out 1) | ((with_reducible refine zr (f := 57) rfl ?_); refine zz (some 8) rfl rfl Tryd.func57 (by kernel_rfl) rfl #[.slice A0_1 l0_1.length c0_1, .int .i64 a1] rfl (by (try simp only [List.map_toArray, List.map_cons, List.map_nil]); first | done | rfl) ?_; (with_reducible refine (laws_szEffectS.calls k _ _ l0_1 a1 t111 _ ?side1 ?side2 A3.out).mono ?_); (case side1 => repeat (first | exact (Kd.C_below HR0_1.out HB.out) | (with_reducible refine Kd.C_alloc ?_ _) | (with_reducible refine Kd.C_drewN ?_ _) | (with_reducible refine Kd.C_drew ?_))); (case side2 => exact HC0_1.out); rintro e w10 ⟨rfl, hb⟩; refine ⟨_, rfl, ?_⟩; have n0_ := Aside0.mk (zi (g := zB) (o := .cells #[.int .i64 a0_0, .slice A0_1 l0_1.length c0_1] 48 (0, 0)) (BL zA.out) hb); have n1_ := Aside0.mk (zn (by exact bl HB.out) hb); clear zA; clear HB; have zA := n0_; have HB := n1_; clear n0_ n1_; (try clear hb); (try clear hb2); (try clear hk); (try clear hi)))
  go_ret
  exact ⟨by first | rfl | (simp [*] <;> rfl), by repeat (first | (with_reducible first | exact HB.out | apply zh | apply zf | apply zg | refine zd ?_ zC.out) | exact HB.out)⟩

def spec_l3Names.l0 : Nat → ByteArray → List ByteArray → Int → Int → Option (List ByteArray)
 | 0, _, _, _, _ => none
 | k + 1, x0, x3, x4, x5 => if x5 ≤ (x0.size : Int) then (if x5 = (x0.size : Int) then (if 0 ≤ x4 then (if x4 ≤ x5 then (if x3.length < 8796093022208 then (spec_l3Names.l0 k x0 (x3 ++ [x0.extract (x4 : Int).toNat (x5 : Int).toNat]) (wrap64 (x5 + 1)) (wrap64 (x5 + 1))) else (none)) else (none)) else (none)) else (if 0 ≤ x5 then (if x5 < (x0.size : Int) then (if (bt x0 x5) = 47 then (if 0 ≤ x4 then (if x4 ≤ x5 then (if x3.length < 8796093022208 then (spec_l3Names.l0 k x0 (x3 ++ [x0.extract (x4 : Int).toNat (x5 : Int).toNat]) (wrap64 (x5 + 1)) (wrap64 (x5 + 1))) else (none)) else (none)) else (none)) else (spec_l3Names.l0 k x0 x3 x4 (wrap64 (x5 + 1)))) else (none)) else (none))) else (some x3)
def spec_l3Names.f (k : Nat) (a0 : ByteArray) : Option (List ByteArray) := spec_l3Names.l0 k a0 (([] : List ByteArray)) 1 1
theorem spec_l3Names.mono_l : ∀ k, (∀ y0 y1 y2 y3, LeO (spec_l3Names.l0 k y0 y1 y2 y3) (spec_l3Names.l0 (k + 1) y0 y1 y2 y3))
 | 0 => fun _ _ _ _ r h => by simp [spec_l3Names.l0] at h
 | k + 1 => by
  have ih0 := spec_l3Names.mono_l k
  ·intro y0 y1 y2 y3
   unfold spec_l3Names.l0
   repeat' first
   | (with_reducible exact ih0 _ _ _ _)
   | (with_reducible exact LeO.refl _)
   | (with_reducible exact LeO.none _)
   | (with_reducible refine LeO.ite ?_ ?_)
   | (with_reducible refine LeO.bind ?_ (fun _ => ?_))
   | exact ih0 _ _ _ _
   | exact LeO.none _
   | refine LeO.ite ?_ ?_
   | refine LeO.bind ?_ (fun _ => ?_)
theorem spec_l3Names.mono : ∀ a0 k, LeO (spec_l3Names.f k a0) (spec_l3Names.f (k + 1) a0) := by
 intro a0 k
 have ih0 := spec_l3Names.mono_l k
 unfold spec_l3Names.f
 repeat' first
   | (with_reducible exact ih0 _ _ _ _)
   | (with_reducible exact LeO.refl _)
   | (with_reducible exact LeO.none _)
   | (with_reducible refine LeO.ite ?_ ?_)
   | (with_reducible refine LeO.bind ?_ (fun _ => ?_))
   | exact ih0 _ _ _ _
   | exact LeO.none _
   | refine LeO.ite ?_ ?_
   | refine LeO.bind ?_ (fun _ => ?_)
set_option maxHeartbeats 8000000 in
set_option maxRecDepth 100000 in
theorem spec_l3Names.calls (k : Nat) (a0 : ByteArray) (r : List ByteArray) (w : World) (h : spec_l3Names.f k a0 = some r) :
  Calls Tryd.prog 149 #[.string a0] w fun e w' => ∃ v0_ : Value, e = .returned (v0_) ∧ Kd.R Kd.string 9 w' w.heap.size (fun _ => True) v0_ r ∧ Below w.heap.size w w' := by
 have HB := Aside0.mk (Below.refl w.heap.size w)
 have H : (spec_l3Names.l0 k a0 (([] : List ByteArray)) 1 1) = some r := h
 clear h
 obtain ⟨y112, hy112⟩ : ∃ y_ : List ByteArray, y_ = (([] : List ByteArray)) := ⟨_, rfl⟩
 replace H : (spec_l3Names.l0 k a0 y112 1 1) = some r := by first | (rw [hy112]; with_reducible exact H) | (have H2_ := (Option.bind_some _ _).symm.trans H; rw [hy112]; with_reducible exact H2_) | (have H2_ := (Option.bind_some _ _).symm.trans H; with_reducible exact H2_) | with_reducible exact H | (rw [hy112]; exact H) | exact H
 have Ny112 := Aside0.mk hy112
 clear hy112
 have H' := Aside0.mk H
 clear H
 go_enter Tryd.func149, Tryd.ntmps149
 go_wp2_with (first | ((with_reducible refine zu (N := 6) rfl ?_); refine Kd.R_lit Kd.string _ 9 ?hg (N := 6) ?hd (xs := ([] : List ByteArray)) (inner := []) (ok := fun _ => True) (okp := fun _ => True) ?hr ?hp (fun _ hk => hk) trivial (Below.refl _ _) (Nat.le_refl _) (by simp) ?_; (case hd => rfl); (case hg => rfl); (case hr => first | (go_simp; done) | (go_simp; rfl)); (case hp => exact (Reps.none _ _)); intro v113 w2 zB hb hg_ hnew_; clear hg_ hnew_; (first | rw [← Ny112.out] at zB | (simp only [Int.reduceToNat] at zB; rw [← Ny112.out] at zB)); have n0_ := Aside0.mk (Kd.R_lower zB (zm (by exact bl HB.out))); have n1_ := Aside0.mk (zn (by exact bl HB.out) hb); clear HB; have zC := n0_; have HB := n1_; clear n0_ n1_; clear hb zB))
 go_loopg [3, 4, 5] k (fun kq v3 v4 v5 w' => ∃ (x3_1 : List ByteArray) (x4_1 : Int) (x5_1 : Int), v4 = .int .i64 x4_1 ∧ v5 = .int .i64 x5_1 ∧ Aside0 (spec_l3Names.l0 kq a0 x3_1 x4_1 x5_1 = some r) ∧ Aside0 (kq ≤ k) ∧ Aside0 (Kd.R Kd.string 9 w' w.heap.size (fun _ => True) v3 x3_1) ∧ Aside0 (Below w.heap.size w w'))
 case atStart => exact ⟨(y112), (1), (1), (by first | rfl | (simp [*]; done)), (by first | rfl | (simp [*]; done)), H', ⟨Nat.le_refl _⟩, ⟨RL zC.out⟩, ⟨by repeat (first | (with_reducible first | exact HB.out | apply zh | apply zf | apply zg) | exact HB.out)⟩⟩
 case round =>
  clear H'
  try clear c1
  try clear p2
  obtain ⟨x3_1, x4_1, x5_1, rfl, rfl, HA, HK1, zA, HB⟩ := hrel
  cases gk with
  | zero => exact absurd HA.out (by simp [spec_l3Names.l0])
  | succ k1 =>
   have H := HA.out
   clear HA
   simp only [spec_l3Names.l0] at H
   by_cases c4 : x5_1 ≤ (a0.size : Int)
   ·rw [if_pos c4] at H
    have c4b0 : decide (x5_1 ≤ (a0.size : Int)) = true := decide_eq_true c4
    clear c4
    by_cases c5 : x5_1 = (a0.size : Int)
    ·rw [if_pos c5] at H
     have c5b0 : (x5_1 == (a0.size : Int)) = true := beq_iff_eq.mpr c5
     have c5b1 : (x5_1 != (a0.size : Int)) = false := bne_eq_false_iff_eq.mpr c5
     clear c5
     by_cases c6 : 0 ≤ x4_1
     ·rw [if_pos c6] at H
      have c6b0 := eq_true c6
      have c6b1 : decide (0 ≤ x4_1) = true := decide_eq_true c6
      clear c6
      by_cases c7 : x4_1 ≤ x5_1
      ·rw [if_pos c7] at H
       have c7b0 := eq_true c7
       have c7b1 : decide (x4_1 ≤ x5_1) = true := decide_eq_true c7
       clear c7
       have c8b0 := eq_true (of_decide_eq_true (by with_reducible assumption) : x5_1 ≤ (a0.size : Int))
       by_cases c9 : x3_1.length < 8796093022208
       ·rw [if_pos c9] at H
        have LMc9 := Aside0.mk c9
        clear c9
        obtain ⟨y115, hy115⟩ : ∃ y_ : List ByteArray, y_ = (x3_1 ++ [a0.extract (x4_1 : Int).toNat (x5_1 : Int).toNat]) := ⟨_, rfl⟩
        replace H : (spec_l3Names.l0 k1 a0 y115 (wrap64 (x5_1 + 1)) (wrap64 (x5_1 + 1))) = some r := by first | (rw [hy115]; with_reducible exact H) | (have H2_ := (Option.bind_some _ _).symm.trans H; rw [hy115]; with_reducible exact H2_) | (have H2_ := (Option.bind_some _ _).symm.trans H; with_reducible exact H2_) | with_reducible exact H | (rw [hy115]; exact H) | exact H
        have Ny115 := Aside0.mk hy115
        clear hy115
        have H' := Aside0.mk H
        clear H
        go_wp2_with (first | ((with_reducible refine gate_builtin (b := .append) (xs := #[.tmp 23, .tmp 28]) rfl ?_); at_builtin; refine Kd.R_append Kd.string (w0 := w) w.heap.size rfl (.tmp 23) (.tmp 28) 119 9 (.string ⟨#[]⟩) 16 rfl Tryd.underlying119 info9 rfl (by decide) (by omega) u3 x3_1 (a0.extract (x4_1 : Int).toNat (x5_1 : Int).toNat) [.string (a0.extract (x4_1 : Int).toNat (x5_1 : Int).toNat)] (fun _ => True) (fun _ => False) rfl rfl ?aP (fun _ hk => hk.elim) ?aF ?aO ?aB ?aS ?aL ?_; (case aP => exact rfl); (case aB => exact (by exact bl HB.out)); (case aF => exact (fun _ _ => trivial)); (case aO => exact (RL zA.out)); (case aS => exact (zm (by exact bl HB.out))); (case aL => have := LMc9.out; omega); intro v116 w10 ho hb hg hat; rw [← Ny115.out] at ho; have n0_ := Aside0.mk (hb); have n1_ := Aside0.mk (ho); clear HB; clear zA; have HB := n0_; have zD := n1_; clear n0_ n1_; clear ho hb hg hat))
        go_roundg k1
        case measure => have := HK1.out; omega
        case rel => exact ⟨(y115), (wrap64 (x5_1 + 1)), (wrap64 (x5_1 + 1)), (by first | rfl | (simp [*]; done)), (by first | rfl | (simp [*]; done)), H', ⟨by have := HK1.out; omega⟩, ⟨RL zD.out⟩, ⟨by repeat (first | (with_reducible first | exact HB.out | apply zh | apply zf | apply zg) | exact HB.out)⟩⟩
       ·rw [if_neg c9] at H
        exact absurd H (by simp)
      ·rw [if_neg c7] at H
       exact absurd H (by simp)
     ·rw [if_neg c6] at H
      exact absurd H (by simp)
    ·rw [if_neg c5] at H
     have c5b0 : (x5_1 == (a0.size : Int)) = false := beq_eq_false_iff_ne.mpr c5
     have c5b1 : (x5_1 != (a0.size : Int)) = true := bne_iff_ne.mpr c5
     by_cases c11 : 0 ≤ x5_1
     ·rw [if_pos c11] at H
      have c11b0 : decide (0 ≤ x5_1) = true := decide_eq_true c11
      clear c11
      by_cases c12 : x5_1 < (a0.size : Int)
      ·rw [if_pos c12] at H
       have c12b0 : decide (x5_1 < (a0.size : Int)) = true := decide_eq_true c12
       clear c12
       by_cases c14 : (bt a0 x5_1) = 47
       ·rw [if_pos c14] at H
        have c14b0 : ((bt a0 x5_1) == 47) = true := beq_iff_eq.mpr c14
        have c14b1 : ((bt a0 x5_1) != 47) = false := bne_eq_false_iff_eq.mpr c14
        clear c14
        by_cases c15 : 0 ≤ x4_1
        ·rw [if_pos c15] at H
         have c15b0 := eq_true c15
         have c15b1 : decide (0 ≤ x4_1) = true := decide_eq_true c15
         clear c15
         by_cases c16 : x4_1 ≤ x5_1
         ·rw [if_pos c16] at H
          have c16b0 := eq_true c16
          have c16b1 : decide (x4_1 ≤ x5_1) = true := decide_eq_true c16
          clear c16
          have c17b0 := eq_true (of_decide_eq_true (by with_reducible assumption) : x5_1 ≤ (a0.size : Int))
          by_cases c18 : x3_1.length < 8796093022208
          ·rw [if_pos c18] at H
           have LMc18 := Aside0.mk c18
           clear c18
           obtain ⟨y118, hy118⟩ : ∃ y_ : List ByteArray, y_ = (x3_1 ++ [a0.extract (x4_1 : Int).toNat (x5_1 : Int).toNat]) := ⟨_, rfl⟩
           replace H : (spec_l3Names.l0 k1 a0 y118 (wrap64 (x5_1 + 1)) (wrap64 (x5_1 + 1))) = some r := by first | (rw [hy118]; with_reducible exact H) | (have H2_ := (Option.bind_some _ _).symm.trans H; rw [hy118]; with_reducible exact H2_) | (have H2_ := (Option.bind_some _ _).symm.trans H; with_reducible exact H2_) | with_reducible exact H | (rw [hy118]; exact H) | exact H
           have Ny118 := Aside0.mk hy118
           clear hy118
           have H' := Aside0.mk H
           clear H
           have p13 : 0 ≤ (x5_1 : Int) := of_decide_eq_true (by with_reducible assumption)
           have q13 : x5_1 < (a0.size : Int) := of_decide_eq_true (by with_reducible assumption)
           have hx13 := bt_at a0 x5_1
           replace p13 := eq_true p13
           replace q13 := eq_true q13
           go_wp2_with (first | ((with_reducible refine gate_builtin (b := .append) (xs := #[.tmp 23, .tmp 28]) rfl ?_); at_builtin; refine Kd.R_append Kd.string (w0 := w) w.heap.size rfl (.tmp 23) (.tmp 28) 119 9 (.string ⟨#[]⟩) 16 rfl Tryd.underlying119 info9 rfl (by decide) (by omega) u3 x3_1 (a0.extract (x4_1 : Int).toNat (x5_1 : Int).toNat) [.string (a0.extract (x4_1 : Int).toNat (x5_1 : Int).toNat)] (fun _ => True) (fun _ => False) rfl rfl ?aP (fun _ hk => hk.elim) ?aF ?aO ?aB ?aS ?aL ?_; (case aP => exact rfl); (case aB => exact (by exact bl HB.out)); (case aF => exact (fun _ _ => trivial)); (case aO => exact (RL zA.out)); (case aS => exact (zm (by exact bl HB.out))); (case aL => have := LMc18.out; omega); intro v119 w19 ho hb hg hat; rw [← Ny118.out] at ho; have n0_ := Aside0.mk (hb); have n1_ := Aside0.mk (ho); clear HB; clear zA; have HB := n0_; have zE := n1_; clear n0_ n1_; clear ho hb hg hat))
           go_roundg k1
           case measure => have := HK1.out; omega
           case rel => exact ⟨(y118), (wrap64 (x5_1 + 1)), (wrap64 (x5_1 + 1)), (by first | rfl | (simp [*]; done)), (by first | rfl | (simp [*]; done)), H', ⟨by have := HK1.out; omega⟩, ⟨RL zE.out⟩, ⟨by repeat (first | (with_reducible first | exact HB.out | apply zh | apply zf | apply zg) | exact HB.out)⟩⟩
          ·rw [if_neg c18] at H
           exact absurd H (by simp)
         ·rw [if_neg c16] at H
          exact absurd H (by simp)
        ·rw [if_neg c15] at H
         exact absurd H (by simp)
       ·rw [if_neg c14] at H
        have c14b0 : ((bt a0 x5_1) == 47) = false := beq_eq_false_iff_ne.mpr c14
        have c14b1 : ((bt a0 x5_1) != 47) = true := bne_iff_ne.mpr c14
        have H' := Aside0.mk H
        clear H
        have p13 : 0 ≤ (x5_1 : Int) := of_decide_eq_true (by with_reducible assumption)
        have q13 : x5_1 < (a0.size : Int) := of_decide_eq_true (by with_reducible assumption)
        have hx13 := bt_at a0 x5_1
        replace p13 := eq_true p13
        replace q13 := eq_true q13
        go_wp2
        go_roundg k1
        case measure => have := HK1.out; omega
        case rel => exact ⟨(x3_1), (x4_1), (wrap64 (x5_1 + 1)), (by first | rfl | (simp [*]; done)), (by first | rfl | (simp [*]; done)), H', ⟨by have := HK1.out; omega⟩, ⟨RL zA.out⟩, ⟨by repeat (first | (with_reducible first | exact HB.out | apply zh | apply zf | apply zg) | exact HB.out)⟩⟩
      ·rw [if_neg c12] at H
       exact absurd H (by simp)
     ·rw [if_neg c11] at H
      exact absurd H (by simp)
   ·rw [if_neg c4] at H
    have c4b0 : decide (x5_1 ≤ (a0.size : Int)) = false := decide_eq_false c4
    clear c4
    obtain rfl := Option.some.inj H
    go_wp2
    go_ret
    exact ⟨_, by first | rfl | (simp [*] <;> rfl), RL zA.out, by repeat (first | (with_reducible first | exact HB.out | apply zh | apply zf | apply zg) | exact HB.out)⟩

def spec_l3Letter.f (a0 : Int) : Option (Bool) := if a0 ≥ 97 then (if a0 ≤ 122 then (some true) else (if a0 ≥ 48 then (some (decide (a0 ≤ 57))) else (some false))) else (if a0 ≥ 48 then (some (decide (a0 ≤ 57))) else (some false))
set_option maxHeartbeats 8000000 in
set_option maxRecDepth 100000 in
theorem spec_l3Letter.calls (a0 : Int) (r : Bool) (w : World) (h : spec_l3Letter.f a0 = some r) :
  Calls Tryd.prog 150 #[.int .u8 a0] w fun e w' => e = .returned (.bool r) ∧ Drawn0 w w' := by
 have H : (if a0 ≥ 97 then (if a0 ≤ 122 then (some true) else (if a0 ≥ 48 then (some (decide (a0 ≤ 57))) else (some false))) else (if a0 ≥ 48 then (some (decide (a0 ≤ 57))) else (some false))) = some r := h
 clear h
 by_cases c2 : a0 ≥ 97
 ·rw [if_pos c2] at H
  have c2b0 : decide (97 ≤ a0) = true := decide_eq_true c2
  clear c2
  by_cases c3 : a0 ≤ 122
  ·rw [if_pos c3] at H
   have c3b0 : decide (a0 ≤ 122) = true := decide_eq_true c3
   clear c3
   obtain rfl := Option.some.inj H
   go_enter Tryd.func150, Tryd.ntmps150
   go_wp2
   go_ret
   exact ⟨by first | rfl | (simp; done) | (simp [*]; done), by repeat (first | exact Drawn0.refl _ | apply Drawn0.step)⟩
  ·rw [if_neg c3] at H
   have c3b0 : decide (a0 ≤ 122) = false := decide_eq_false c3
   clear c3
   by_cases c4 : a0 ≥ 48
   ·rw [if_pos c4] at H
    have c4b0 : decide (48 ≤ a0) = true := decide_eq_true c4
    clear c4
    obtain rfl := Option.some.inj H
    go_enter Tryd.func150, Tryd.ntmps150
    go_wp2
    go_ret
    exact ⟨by first | rfl | (simp; done) | (simp [*]; done), by repeat (first | exact Drawn0.refl _ | apply Drawn0.step)⟩
   ·rw [if_neg c4] at H
    have c4b0 : decide (48 ≤ a0) = false := decide_eq_false c4
    clear c4
    obtain rfl := Option.some.inj H
    go_enter Tryd.func150, Tryd.ntmps150
    go_wp2
    go_ret
    exact ⟨by first | rfl | (simp; done) | (simp [*]; done), by repeat (first | exact Drawn0.refl _ | apply Drawn0.step)⟩
 ·rw [if_neg c2] at H
  have c2b0 : decide (97 ≤ a0) = false := decide_eq_false c2
  clear c2
  by_cases c5 : a0 ≥ 48
  ·rw [if_pos c5] at H
   have c5b0 : decide (48 ≤ a0) = true := decide_eq_true c5
   clear c5
   obtain rfl := Option.some.inj H
   go_enter Tryd.func150, Tryd.ntmps150
   go_wp2
   go_ret
   exact ⟨by first | rfl | (simp; done) | (simp [*]; done), by repeat (first | exact Drawn0.refl _ | apply Drawn0.step)⟩
  ·rw [if_neg c5] at H
   have c5b0 : decide (48 ≤ a0) = false := decide_eq_false c5
   clear c5
   obtain rfl := Option.some.inj H
   go_enter Tryd.func150, Tryd.ntmps150
   go_wp2
   go_ret
   exact ⟨by first | rfl | (simp; done) | (simp [*]; done), by repeat (first | exact Drawn0.refl _ | apply Drawn0.step)⟩

mutual
def spec_ValidPath.j0 : Nat → ByteArray → Bool → Option (Bool)
 | 0, _, _ => none
 | k + 1, x0, x15 => if x15 = true then (some false) else ((spec_l3Names.f k x0).bind fun t121 => (if (t121.length : Int) > 6 then (some false) else (spec_ValidPath.l0 k t121 0)))
def spec_ValidPath.l0 : Nat → List ByteArray → Int → Option (Bool)
 | 0, _, _ => none
 | k + 1, x3, x4 => if x4 < (x3.length : Int) then (if 0 ≤ x4 then (if ((rdOf ByteArray.empty x3 x4).size : Int) < 1 then (spec_ValidPath.j2 k x3 x4 true) else (spec_ValidPath.j2 k x3 x4 (decide (((rdOf ByteArray.empty x3 x4).size : Int) > 16)))) else (none)) else (some true)
def spec_ValidPath.j2 : Nat → List ByteArray → Int → Bool → Option (Bool)
 | 0, _, _, _ => none
 | k + 1, x3, x4, x40 => if x40 = true then (some false) else (spec_ValidPath.l1 k x3 x4 0)
def spec_ValidPath.l1 : Nat → List ByteArray → Int → Int → Option (Bool)
 | 0, _, _, _ => none
 | k + 1, x3, x4, x5 => if 0 ≤ x4 then (if x4 < (x3.length : Int) then (if x5 < ((rdOf ByteArray.empty x3 x4).size : Int) then (if 0 ≤ x5 then ((spec_l3Letter.f (bt (rdOf ByteArray.empty x3 x4) x5)).bind fun t128 => (if t128 = true then (spec_ValidPath.l1 k x3 x4 (wrap64 (x5 + 1))) else (some false))) else (none)) else (spec_ValidPath.l0 k x3 (wrap64 (x4 + 1)))) else (none)) else (none)
end
def spec_ValidPath.f (k : Nat) (a0 : ByteArray) : Option (Bool) := if a0.toList = ([47] : List UInt8) then (some true) else (if (a0.size : Int) < 2 then (spec_ValidPath.j0 k a0 true) else (if 0 < (a0.size : Int) then (spec_ValidPath.j0 k a0 ((bt a0 0) != 47)) else (none)))
theorem spec_ValidPath.mono_l : ∀ k, (∀ y0 y1, LeO (spec_ValidPath.j0 k y0 y1) (spec_ValidPath.j0 (k + 1) y0 y1)) ∧ (∀ y0 y1, LeO (spec_ValidPath.l0 k y0 y1) (spec_ValidPath.l0 (k + 1) y0 y1)) ∧ (∀ y0 y1 y2, LeO (spec_ValidPath.j2 k y0 y1 y2) (spec_ValidPath.j2 (k + 1) y0 y1 y2)) ∧ (∀ y0 y1 y2, LeO (spec_ValidPath.l1 k y0 y1 y2) (spec_ValidPath.l1 (k + 1) y0 y1 y2))
 | 0 => ⟨fun _ _ r h => by simp [spec_ValidPath.j0] at h, fun _ _ r h => by simp [spec_ValidPath.l0] at h, fun _ _ _ r h => by simp [spec_ValidPath.j2] at h, fun _ _ _ r h => by simp [spec_ValidPath.l1] at h⟩
 | k + 1 => by
  obtain ⟨ih0, ih1, ih2, ih3⟩ := spec_ValidPath.mono_l k
  refine ⟨?_, ?_, ?_, ?_⟩
  ·intro y0 y1
   unfold spec_ValidPath.j0
   repeat' first
   | (with_reducible exact ih0 _ _)
   | (with_reducible exact ih1 _ _)
   | (with_reducible exact ih2 _ _ _)
   | (with_reducible exact ih3 _ _ _)
   | (with_reducible exact spec_l3Names.mono _ _)
   | (with_reducible exact LeO.refl _)
   | (with_reducible exact LeO.none _)
   | (with_reducible refine LeO.ite ?_ ?_)
   | (with_reducible refine LeO.bind ?_ (fun _ => ?_))
   | exact ih0 _ _
   | exact ih1 _ _
   | exact ih2 _ _ _
   | exact ih3 _ _ _
   | exact spec_l3Names.mono _ _
   | exact LeO.none _
   | refine LeO.ite ?_ ?_
   | refine LeO.bind ?_ (fun _ => ?_)
  ·intro y0 y1
   unfold spec_ValidPath.l0
   repeat' first
   | (with_reducible exact ih0 _ _)
   | (with_reducible exact ih1 _ _)
   | (with_reducible exact ih2 _ _ _)
   | (with_reducible exact ih3 _ _ _)
   | (with_reducible exact spec_l3Names.mono _ _)
   | (with_reducible exact LeO.refl _)
   | (with_reducible exact LeO.none _)
   | (with_reducible refine LeO.ite ?_ ?_)
   | (with_reducible refine LeO.bind ?_ (fun _ => ?_))
   | exact ih0 _ _
   | exact ih1 _ _
   | exact ih2 _ _ _
   | exact ih3 _ _ _
   | exact spec_l3Names.mono _ _
   | exact LeO.none _
   | refine LeO.ite ?_ ?_
   | refine LeO.bind ?_ (fun _ => ?_)
  ·intro y0 y1 y2
   unfold spec_ValidPath.j2
   repeat' first
   | (with_reducible exact ih0 _ _)
   | (with_reducible exact ih1 _ _)
   | (with_reducible exact ih2 _ _ _)
   | (with_reducible exact ih3 _ _ _)
   | (with_reducible exact spec_l3Names.mono _ _)
   | (with_reducible exact LeO.refl _)
   | (with_reducible exact LeO.none _)
   | (with_reducible refine LeO.ite ?_ ?_)
   | (with_reducible refine LeO.bind ?_ (fun _ => ?_))
   | exact ih0 _ _
   | exact ih1 _ _
   | exact ih2 _ _ _
   | exact ih3 _ _ _
   | exact spec_l3Names.mono _ _
   | exact LeO.none _
   | refine LeO.ite ?_ ?_
   | refine LeO.bind ?_ (fun _ => ?_)
  ·intro y0 y1 y2
   unfold spec_ValidPath.l1
   repeat' first
   | (with_reducible exact ih0 _ _)
   | (with_reducible exact ih1 _ _)
   | (with_reducible exact ih2 _ _ _)
   | (with_reducible exact ih3 _ _ _)
   | (with_reducible exact spec_l3Names.mono _ _)
   | (with_reducible exact LeO.refl _)
   | (with_reducible exact LeO.none _)
   | (with_reducible refine LeO.ite ?_ ?_)
   | (with_reducible refine LeO.bind ?_ (fun _ => ?_))
   | exact ih0 _ _
   | exact ih1 _ _
   | exact ih2 _ _ _
   | exact ih3 _ _ _
   | exact spec_l3Names.mono _ _
   | exact LeO.none _
   | refine LeO.ite ?_ ?_
   | refine LeO.bind ?_ (fun _ => ?_)
theorem spec_ValidPath.mono : ∀ a0 k, LeO (spec_ValidPath.f k a0) (spec_ValidPath.f (k + 1) a0) := by
 intro a0 k
 obtain ⟨ih0, ih1, ih2, ih3⟩ := spec_ValidPath.mono_l k
 unfold spec_ValidPath.f
 repeat' first
   | (with_reducible exact ih0 _ _)
   | (with_reducible exact ih1 _ _)
   | (with_reducible exact ih2 _ _ _)
   | (with_reducible exact ih3 _ _ _)
   | (with_reducible exact spec_l3Names.mono _ _)
   | (with_reducible exact LeO.refl _)
   | (with_reducible exact LeO.none _)
   | (with_reducible refine LeO.ite ?_ ?_)
   | (with_reducible refine LeO.bind ?_ (fun _ => ?_))
   | exact ih0 _ _
   | exact ih1 _ _
   | exact ih2 _ _ _
   | exact ih3 _ _ _
   | exact spec_l3Names.mono _ _
   | exact LeO.none _
   | refine LeO.ite ?_ ?_
   | refine LeO.bind ?_ (fun _ => ?_)
set_option maxHeartbeats 8000000 in
set_option maxRecDepth 100000 in
theorem spec_ValidPath.calls (k : Nat) (a0 : ByteArray) (r : Bool) (w : World) (h : spec_ValidPath.f k a0 = some r) :
  Calls Tryd.prog 128 #[.string a0] w fun e w' => e = .returned (.bool r) ∧ Below w.heap.size w w' := by
 have HB := Aside0.mk (Below.refl w.heap.size w)
 have H : (if a0.toList = ([47] : List UInt8) then (some true) else (if (a0.size : Int) < 2 then (spec_ValidPath.j0 k a0 true) else (if 0 < (a0.size : Int) then (spec_ValidPath.j0 k a0 ((bt a0 0) != 47)) else (none)))) = some r := h
 clear h
 by_cases c2 : a0.toList = ([47] : List UInt8)
 ·rw [if_pos c2] at H
  have c2b0 : (a0.toList == ([47] : List UInt8)) = true := beq_iff_eq.mpr c2
  have c2b1 : (a0.toList != ([47] : List UInt8)) = false := bne_eq_false_iff_eq.mpr c2
  clear c2
  obtain rfl := Option.some.inj H
  go_enter Tryd.func128, Tryd.ntmps128
  go_wp2
  go_ret
  exact ⟨by first | rfl | (simp [*] <;> rfl), by repeat (first | (with_reducible first | exact HB.out | apply zh | apply zf | apply zg) | exact HB.out)⟩
 ·rw [if_neg c2] at H
  have c2b0 : (a0.toList == ([47] : List UInt8)) = false := beq_eq_false_iff_ne.mpr c2
  have c2b1 : (a0.toList != ([47] : List UInt8)) = true := bne_iff_ne.mpr c2
  have HC3 := Aside0.mk H
  clear H
  go_enter Tryd.func128, Tryd.ntmps128
  go_upto_region 3 with (fail)
  go_cut [15] (fun v15 wc => ∃ (kq : Nat) (x15_2 : Bool), v15 = .bool x15_2 ∧ Aside0 (spec_ValidPath.j0 kq a0 x15_2 = some r) ∧ Aside0 (kq ≤ k) ∧ Aside0 (Below w.heap.size w wc))
  case first =>
   have H := HC3.out
   clear HC3
   by_cases c4 : (a0.size : Int) < 2
   ·rw [if_pos c4] at H
    have c4b0 : decide ((a0.size : Int) < 2) = true := decide_eq_true c4
    have c4b1 : decide (a0.size < 2) = true := decide_eq_true (by omega)
    clear c4
    (first | rw [c4b0] | (simp only [zo, zp]; rw [c4b0]) | skip)
    have H' := Aside0.mk H
    clear H
    go_wp2
    go_meet
    case rel => exact ⟨_, (true), (by first | rfl | (simp [*]; done)), H', ⟨by first | omega | exact Nat.le_refl _⟩, ⟨by repeat (first | (with_reducible first | exact HB.out | apply zh | apply zf | apply zg) | exact HB.out)⟩⟩
   ·rw [if_neg c4] at H
    have c4b0 : decide ((a0.size : Int) < 2) = false := decide_eq_false c4
    have c4b1 : decide (a0.size < 2) = false := decide_eq_false (by omega)
    clear c4
    (first | rw [c4b0] | (simp only [zo, zp]; rw [c4b0]) | skip)
    by_cases c5 : 0 < (a0.size : Int)
    ·rw [if_pos c5] at H
     have c5b0 : decide (0 < (a0.size : Int)) = true := decide_eq_true c5
     have c5b1 : decide (0 < a0.size) = true := decide_eq_true (by omega)
     clear c5
     have H' := Aside0.mk H
     clear H
     have p6 : 0 ≤ (0 : Int) := (by omega)
     have q6 : 0 < a0.size := (by have : (0 : Int) < (a0.size : Int) := of_decide_eq_true (by with_reducible assumption); omega)
     have hx6 : ∀ h : 0 < a0.size, ((a0[0]'h).toNat : Int) = bt a0 0 := bt_at a0 0
     clear p6
     have qi6 : (0 < (a0.size : Int)) = True := eq_true (of_decide_eq_true (by with_reducible assumption))
     replace q6 := eq_true q6
     go_wp2
     go_meet
     case rel => exact ⟨_, (((bt a0 0) != 47)), (by first | rfl | (simp [*]; done)), H', ⟨by first | omega | exact Nat.le_refl _⟩, ⟨by repeat (first | (with_reducible first | exact HB.out | apply zh | apply zf | apply zg) | exact HB.out)⟩⟩
    ·rw [if_neg c5] at H
     exact absurd H (by simp)
  case rest =>
   clear HC3
   try clear c1
   try clear c2
   try clear c2b0
   try clear c2b1
   try clear p2
   try clear c4
   try clear c4b0
   try clear c4b1
   try clear c5
   try clear c5b0
   try clear c5b1
   try clear p6
   try clear q6
   try clear hx6
   try clear qi6
   try clear p6
   try clear q6
   obtain ⟨kq, x15_2, rfl, HA, HJ2, HB⟩ := hcut
   cases kq with
   | zero => exact absurd HA.out (by simp [spec_ValidPath.j0])
   | succ kj2 =>
    have H := HA.out
    clear HA
    simp only [spec_ValidPath.j0] at H
    by_cases c7 : x15_2 = true
    ·subst c7
     rw [if_pos rfl] at H
     obtain rfl := Option.some.inj H
     go_wp2
     go_ret
     exact ⟨by first | rfl | (simp [*] <;> rfl), by repeat (first | (with_reducible first | exact HB.out | apply zh | apply zf | apply zg) | exact HB.out)⟩
    ·replace c7 := Bool.eq_false_iff.mpr c7
     subst c7
     rw [if_neg (show ¬ (false = true) by decide)] at H
     replace H := Option.bind_eq_some_iff.mp H
     obtain ⟨t121, A80, H⟩ := H
     try dsimp only at H
     have A8 := Aside0.mk A80
     clear A80
     by_cases c9 : (t121.length : Int) > 6
     ·rw [if_pos c9] at H
      have c9b0 : decide (6 < (t121.length : Int)) = true := decide_eq_true c9
      have c9b1 : decide (6 < t121.length) = true := decide_eq_true (by omega)
      clear c9
      obtain rfl := Option.some.inj H
      go_wp2_with (first | ((with_reducible refine zr (f := 149) rfl ?_); refine zz (some 17) rfl rfl Tryd.func149 (by kernel_rfl) rfl #[.string a0] rfl (by (try simp only [List.map_toArray, List.map_cons, List.map_nil]); first | done | rfl) ?_; (with_reducible refine (spec_l3Names.calls kj2 a0 t121 _ A8.out).mono ?_); rintro e w10 ⟨v122, rfl, zC, hb⟩; refine ⟨_, rfl, ?_⟩; have n0_ := Aside0.mk (Kd.R_lower zC (zm (by exact bl HB.out))); have n1_ := Aside0.mk (zn (by exact bl HB.out) hb); clear HB; have zB := n0_; have HB := n1_; clear n0_ n1_; (try clear hb); (try clear hb2); (try clear hk); (try clear hi); (try clear zC); obtain ⟨Ao11, co11, eo11⟩ := Kd.R_slice zB.out; subst eo11))
      go_ret
      exact ⟨by first | rfl | (simp [*] <;> rfl), by repeat (first | (with_reducible first | exact HB.out | apply zh | apply zf | apply zg) | exact HB.out)⟩
     ·rw [if_neg c9] at H
      have c9b0 : decide (6 < (t121.length : Int)) = false := decide_eq_false c9
      have c9b1 : decide (6 < t121.length) = false := decide_eq_false (by omega)
      clear c9
      have H' := Aside0.mk H
      clear H
      go_wp2_with (first | ((with_reducible refine zr (f := 149) rfl ?_); refine zz (some 17) rfl rfl Tryd.func149 (by kernel_rfl) rfl #[.string a0] rfl (by (try simp only [List.map_toArray, List.map_cons, List.map_nil]); first | done | rfl) ?_; (with_reducible refine (spec_l3Names.calls kj2 a0 t121 _ A8.out).mono ?_); rintro e w12 ⟨v122, rfl, zC, hb⟩; refine ⟨_, rfl, ?_⟩; have n0_ := Aside0.mk (Kd.R_lower zC (zm (by exact bl HB.out))); have n1_ := Aside0.mk (zn (by exact bl HB.out) hb); clear HB; have zB := n0_; have HB := n1_; clear n0_ n1_; (try clear hb); (try clear hb2); (try clear hk); (try clear hi); (try clear zC); obtain ⟨Ao13, co13, eo13⟩ := Kd.R_slice zB.out; subst eo13))
      go_loopg [4] kj2 (fun kq v4 w' => ∃ (x4_2 : Int), v4 = .int .i64 x4_2 ∧ Aside0 (spec_ValidPath.l0 kq t121 x4_2 = some r) ∧ Aside0 (kq ≤ kj2) ∧ Aside0 (Kd.R Kd.string 9 w' w.heap.size (fun _ => True) (.slice Ao13 t121.length co13) t121) ∧ Aside0 (Below w.heap.size w w'))
      case atStart => exact ⟨(0), (by first | rfl | (simp [*]; done)), H', ⟨Nat.le_refl _⟩, ⟨RL zB.out⟩, ⟨by repeat (first | (with_reducible first | exact HB.out | apply zh | apply zf | apply zg) | exact HB.out)⟩⟩
      case round =>
       clear H'
       try clear c1
       try clear c2
       try clear c2b0
       try clear c2b1
       try clear p2
       try clear c4
       try clear c4b0
       try clear c4b1
       try clear c5
       try clear c5b0
       try clear c5b1
       try clear p6
       try clear q6
       try clear hx6
       try clear qi6
       try clear c7
       try clear c9
       try clear c9b0
       try clear c9b1
       try clear c12
       try clear p2
       try clear p6
       try clear q6
       obtain ⟨x4_2, rfl, HA, HK2, zA, HB⟩ := hrel
       cases gk with
       | zero => exact absurd HA.out (by simp [spec_ValidPath.l0])
       | succ k2 =>
        have H := HA.out
        clear HA
        simp only [spec_ValidPath.l0] at H
        by_cases c14 : x4_2 < (t121.length : Int)
        ·rw [if_pos c14] at H
         have c14b0 : decide (x4_2 < (t121.length : Int)) = true := decide_eq_true c14
         clear c14
         have HC15 := Aside0.mk H
         clear H
         go_upto_region 11 with (fail)
         go_cut [40] (fun v40 wc => ∃ (kq : Nat) (x40_14 : Bool), v40 = .bool x40_14 ∧ Aside0 (spec_ValidPath.j2 kq t121 x4_2 x40_14 = some r) ∧ Aside0 (kq ≤ k2) ∧ Aside0 (Kd.R Kd.string 9 wc w.heap.size (fun _ => True) (.slice Ao13 t121.length co13) t121) ∧ Aside0 (Below w.heap.size w wc))
         case first =>
          have H := HC15.out
          clear HC15
          by_cases c16 : 0 ≤ x4_2
          ·rw [if_pos c16] at H
           have c16b0 : decide (0 ≤ x4_2) = true := decide_eq_true c16
           clear c16
           (first | rw [c16b0] | (simp only [zo, zp]; rw [c16b0]) | skip)
           by_cases c17 : ((rdOf ByteArray.empty t121 x4_2).size : Int) < 1
           ·rw [if_pos c17] at H
            have c17b0 : decide (((rdOf ByteArray.empty t121 x4_2).size : Int) < 1) = true := decide_eq_true c17
            have c17b1 : decide ((rdOf ByteArray.empty t121 x4_2).size < 1) = true := decide_eq_true (by omega)
            clear c17
            have H' := Aside0.mk H
            clear H
            have p124 : 0 ≤ (x4_2 : Int) := of_decide_eq_true (by with_reducible assumption)
            have q124 : x4_2 < (t121.length : Int) := of_decide_eq_true (by with_reducible assumption)
            obtain ⟨ad124, e124, hx124_0⟩ := Kd.at_string (Kd.R_reads' zA.out).2.2 x4_2 p124 q124
            cases e124
            replace p124 := eq_true p124
            replace q124 := eq_true q124
            go_wp2
            go_meet
            case rel => exact ⟨_, (true), (by first | rfl | (simp [*]; done)), H', ⟨by have := HJ2.out; have := HK2.out; first | omega | exact Nat.le_refl _⟩, ⟨RL zA.out⟩, ⟨by repeat (first | (with_reducible first | exact HB.out | apply zh | apply zf | apply zg) | exact HB.out)⟩⟩
           ·rw [if_neg c17] at H
            have c17b0 : decide (((rdOf ByteArray.empty t121 x4_2).size : Int) < 1) = false := decide_eq_false c17
            have c17b1 : decide ((rdOf ByteArray.empty t121 x4_2).size < 1) = false := decide_eq_false (by omega)
            clear c17
            have H' := Aside0.mk H
            clear H
            have p124 : 0 ≤ (x4_2 : Int) := of_decide_eq_true (by with_reducible assumption)
            have q124 : x4_2 < (t121.length : Int) := of_decide_eq_true (by with_reducible assumption)
            obtain ⟨ad124, e124, hx124_0⟩ := Kd.at_string (Kd.R_reads' zA.out).2.2 x4_2 p124 q124
            cases e124
            replace p124 := eq_true p124
            replace q124 := eq_true q124
            have p125 : 0 ≤ (x4_2 : Int) := of_decide_eq_true (by with_reducible assumption)
            have q125 : x4_2 < (t121.length : Int) := of_decide_eq_true (by with_reducible assumption)
            obtain ⟨ad125, e125, hx125_0⟩ := Kd.at_string (Kd.R_reads' zA.out).2.2 x4_2 p125 q125
            obtain rfl : ad124 = ad125 := (by injection e125)
            replace p125 := eq_true p125
            replace q125 := eq_true q125
            go_wp2
            go_meet
            case rel => exact ⟨_, (decide (((rdOf ByteArray.empty t121 x4_2).size : Int) > 16)), (by first | rfl | (simp [*]; done)), H', ⟨by have := HJ2.out; have := HK2.out; first | omega | exact Nat.le_refl _⟩, ⟨RL zA.out⟩, ⟨by repeat (first | (with_reducible first | exact HB.out | apply zh | apply zf | apply zg) | exact HB.out)⟩⟩
          ·rw [if_neg c16] at H
           exact absurd H (by simp)
         case rest =>
          clear HC15
          try clear c1
          try clear p1
          try clear q1
          try clear hx1
          try clear c2
          try clear c2b0
          try clear c2b1
          try clear p2
          try clear c4
          try clear c4b0
          try clear c4b1
          try clear c5
          try clear c5b0
          try clear c5b1
          try clear p6
          try clear q6
          try clear hx6
          try clear qi6
          try clear c7
          try clear c9
          try clear c9b0
          try clear c9b1
          try clear c12
          try clear p12
          try clear q12
          try clear hx12
          try clear c14
          try clear c14b0
          try clear c16
          try clear c16b0
          try clear c17
          try clear c17b0
          try clear c17b1
          try clear hx124_0
          try clear hx125_0
          try clear p124
          try clear p125
          try clear p2
          try clear p6
          try clear q124
          try clear q125
          try clear q6
          obtain ⟨kq, x40_14, rfl, HA, HJ14, zA, HB⟩ := hcut
          cases kq with
          | zero => exact absurd HA.out (by simp [spec_ValidPath.j2])
          | succ kj14 =>
           have H := HA.out
           clear HA
           simp only [spec_ValidPath.j2] at H
           by_cases c18 : x40_14 = true
           ·subst c18
            rw [if_pos rfl] at H
            obtain rfl := Option.some.inj H
            go_wp2
            go_ret
            exact ⟨by first | rfl | (simp [*] <;> rfl), by repeat (first | (with_reducible first | exact HB.out | apply zh | apply zf | apply zg) | exact HB.out)⟩
           ·replace c18 := Bool.eq_false_iff.mpr c18
            subst c18
            rw [if_neg (show ¬ (false = true) by decide)] at H
            have H' := Aside0.mk H
            clear H
            go_wp2
            go_loopg [5] kj14 (fun kq v5 w' => ∃ (x5_4 : Int), v5 = .int .i64 x5_4 ∧ Aside0 (spec_ValidPath.l1 kq t121 x4_2 x5_4 = some r) ∧ Aside0 (kq ≤ kj14) ∧ Aside0 (Kd.R Kd.string 9 w' w.heap.size (fun _ => True) (.slice Ao13 t121.length co13) t121) ∧ Aside0 (Below w.heap.size w w'))
            case atStart => exact ⟨(0), (by first | rfl | (simp [*]; done)), H', ⟨Nat.le_refl _⟩, ⟨RL zA.out⟩, ⟨by repeat (first | (with_reducible first | exact HB.out | apply zh | apply zf | apply zg) | exact HB.out)⟩⟩
            case round =>
             clear H'
             try clear c1
             try clear p1
             try clear q1
             try clear hx1
             try clear c2
             try clear c2b0
             try clear c2b1
             try clear p2
             try clear c4
             try clear c4b0
             try clear c4b1
             try clear c5
             try clear c5b0
             try clear c5b1
             try clear p6
             try clear q6
             try clear hx6
             try clear qi6
             try clear c7
             try clear c9
             try clear c9b0
             try clear c9b1
             try clear c12
             try clear p12
             try clear q12
             try clear hx12
             try clear c14
             try clear c14b0
             try clear c16
             try clear c16b0
             try clear c17
             try clear c17b0
             try clear c17b1
             try clear c18
             try clear hx124_0
             try clear hx125_0
             try clear p1
             try clear p12
             try clear p124
             try clear p125
             try clear p2
             try clear p6
             try clear q1
             try clear q12
             try clear q124
             try clear q125
             try clear q6
             obtain ⟨x5_4, rfl, HA, HK4, zA, HB⟩ := hrel
             cases gk with
             | zero => exact absurd HA.out (by simp [spec_ValidPath.l1])
             | succ k4 =>
              have H := HA.out
              clear HA
              simp only [spec_ValidPath.l1] at H
              by_cases c19 : 0 ≤ x4_2
              ·rw [if_pos c19] at H
               have c19b0 : decide (0 ≤ x4_2) = true := decide_eq_true c19
               clear c19
               by_cases c20 : x4_2 < (t121.length : Int)
               ·rw [if_pos c20] at H
                have c20b0 : decide (x4_2 < (t121.length : Int)) = true := decide_eq_true c20
                clear c20
                by_cases c21 : x5_4 < ((rdOf ByteArray.empty t121 x4_2).size : Int)
                ·rw [if_pos c21] at H
                 have c21b0 : decide (x5_4 < ((rdOf ByteArray.empty t121 x4_2).size : Int)) = true := decide_eq_true c21
                 clear c21
                 by_cases c22 : 0 ≤ x5_4
                 ·rw [if_pos c22] at H
                  have c22b0 : decide (0 ≤ x5_4) = true := decide_eq_true c22
                  clear c22
                  replace H := Option.bind_eq_some_iff.mp H
                  obtain ⟨t128, A240, H⟩ := H
                  try dsimp only at H
                  have A24 := Aside0.mk A240
                  clear A240
                  by_cases c25 : t128 = true
                  ·subst c25
                   rw [if_pos rfl] at H
                   have H' := Aside0.mk H
                   clear H
                   have p126 : 0 ≤ (x4_2 : Int) := of_decide_eq_true (by with_reducible assumption)
                   have q126 : x4_2 < (t121.length : Int) := of_decide_eq_true (by with_reducible assumption)
                   obtain ⟨ad126, e126, hx126_0⟩ := Kd.at_string (Kd.R_reads' zA.out).2.2 x4_2 p126 q126
                   cases e126
                   replace p126 := eq_true p126
                   replace q126 := eq_true q126
                   have p127 : 0 ≤ (x4_2 : Int) := of_decide_eq_true (by with_reducible assumption)
                   have q127 : x4_2 < (t121.length : Int) := of_decide_eq_true (by with_reducible assumption)
                   obtain ⟨ad127, e127, hx127_0⟩ := Kd.at_string (Kd.R_reads' zA.out).2.2 x4_2 p127 q127
                   obtain rfl : ad126 = ad127 := (by injection e127)
                   replace p127 := eq_true p127
                   replace q127 := eq_true q127
                   have p23 : 0 ≤ (x5_4 : Int) := of_decide_eq_true (by with_reducible assumption)
                   have q23 : x5_4 < ((rdOf ByteArray.empty t121 x4_2).size : Int) := of_decide_eq_true (by with_reducible assumption)
                   have hx23 := bt_at (rdOf ByteArray.empty t121 x4_2) x5_4
                   replace p23 := eq_true p23
                   replace q23 := eq_true q23
                   go_wp2_with (first | ((with_reducible refine zr (f := 150) rfl ?_); refine zz (some 56) rfl rfl Tryd.func150 (by kernel_rfl) rfl #[.int .u8 (bt (rdOf ByteArray.empty t121 x4_2) x5_4)] rfl (by (try simp only [List.map_toArray, List.map_cons, List.map_nil]); first | done | rfl) ?_; (with_reducible refine (spec_l3Letter.calls (bt (rdOf ByteArray.empty t121 x4_2) x5_4) true _ A24.out).mono ?_); rintro e w' ⟨rfl, ⟨nd, rfl⟩⟩; refine ⟨_, rfl, ?_⟩))
                   go_roundg k4
                   case measure => have := HJ2.out; have := HK2.out; have := HJ14.out; have := HK4.out; omega
                   case rel => exact ⟨(wrap64 (x5_4 + 1)), (by first | rfl | (simp [*]; done)), H', ⟨by have := HJ2.out; have := HK2.out; have := HJ14.out; have := HK4.out; omega⟩, ⟨RL zA.out⟩, ⟨by repeat (first | (with_reducible first | exact HB.out | apply zh | apply zf | apply zg) | exact HB.out)⟩⟩
                  ·replace c25 := Bool.eq_false_iff.mpr c25
                   subst c25
                   rw [if_neg (show ¬ (false = true) by decide)] at H
                   obtain rfl := Option.some.inj H
                   have p126 : 0 ≤ (x4_2 : Int) := of_decide_eq_true (by with_reducible assumption)
                   have q126 : x4_2 < (t121.length : Int) := of_decide_eq_true (by with_reducible assumption)
                   obtain ⟨ad126, e126, hx126_0⟩ := Kd.at_string (Kd.R_reads' zA.out).2.2 x4_2 p126 q126
                   cases e126
                   replace p126 := eq_true p126
                   replace q126 := eq_true q126
                   have p127 : 0 ≤ (x4_2 : Int) := of_decide_eq_true (by with_reducible assumption)
                   have q127 : x4_2 < (t121.length : Int) := of_decide_eq_true (by with_reducible assumption)
                   obtain ⟨ad127, e127, hx127_0⟩ := Kd.at_string (Kd.R_reads' zA.out).2.2 x4_2 p127 q127
                   obtain rfl : ad126 = ad127 := (by injection e127)
                   replace p127 := eq_true p127
                   replace q127 := eq_true q127
                   have p23 : 0 ≤ (x5_4 : Int) := of_decide_eq_true (by with_reducible assumption)
                   have q23 : x5_4 < ((rdOf ByteArray.empty t121 x4_2).size : Int) := of_decide_eq_true (by with_reducible assumption)
                   have hx23 := bt_at (rdOf ByteArray.empty t121 x4_2) x5_4
                   replace p23 := eq_true p23
                   replace q23 := eq_true q23
                   go_wp2_with (first | ((with_reducible refine zr (f := 150) rfl ?_); refine zz (some 56) rfl rfl Tryd.func150 (by kernel_rfl) rfl #[.int .u8 (bt (rdOf ByteArray.empty t121 x4_2) x5_4)] rfl (by (try simp only [List.map_toArray, List.map_cons, List.map_nil]); first | done | rfl) ?_; (with_reducible refine (spec_l3Letter.calls (bt (rdOf ByteArray.empty t121 x4_2) x5_4) false _ A24.out).mono ?_); rintro e w' ⟨rfl, ⟨nd, rfl⟩⟩; refine ⟨_, rfl, ?_⟩))
                   go_ret
                   exact ⟨by first | rfl | (simp [*] <;> rfl), by repeat (first | (with_reducible first | exact HB.out | apply zh | apply zf | apply zg) | exact HB.out)⟩
                 ·rw [if_neg c22] at H
                  exact absurd H (by simp)
                ·rw [if_neg c21] at H
                 have c21b0 : decide (x5_4 < ((rdOf ByteArray.empty t121 x4_2).size : Int)) = false := decide_eq_false c21
                 clear c21
                 have H' := Aside0.mk H
                 clear H
                 have p126 : 0 ≤ (x4_2 : Int) := of_decide_eq_true (by with_reducible assumption)
                 have q126 : x4_2 < (t121.length : Int) := of_decide_eq_true (by with_reducible assumption)
                 obtain ⟨ad126, e126, hx126_0⟩ := Kd.at_string (Kd.R_reads' zA.out).2.2 x4_2 p126 q126
                 cases e126
                 replace p126 := eq_true p126
                 replace q126 := eq_true q126
                 go_wp2
                 go_roundg k4
                 case measure => have := HJ2.out; have := HK2.out; have := HJ14.out; have := HK4.out; omega
                 case rel => exact ⟨(wrap64 (x4_2 + 1)), (by first | rfl | (simp [*]; done)), H', ⟨by have := HJ2.out; have := HK2.out; have := HJ14.out; have := HK4.out; omega⟩, ⟨RL zA.out⟩, ⟨by repeat (first | (with_reducible first | exact HB.out | apply zh | apply zf | apply zg) | exact HB.out)⟩⟩
               ·rw [if_neg c20] at H
                exact absurd H (by simp)
              ·rw [if_neg c19] at H
               exact absurd H (by simp)
        ·rw [if_neg c14] at H
         have c14b0 : decide (x4_2 < (t121.length : Int)) = false := decide_eq_false c14
         clear c14
         obtain rfl := Option.some.inj H
         go_wp2
         go_ret
         exact ⟨by first | rfl | (simp [*] <;> rfl), by repeat (first | (with_reducible first | exact HB.out | apply zh | apply zf | apply zg) | exact HB.out)⟩

def spec_l3Stat.f (a0 : Int) : Option (Bool) := if a0 ≥ 0 then (some (decide (a0 ≤ 2147483647))) else (some false)
set_option maxHeartbeats 8000000 in
set_option maxRecDepth 100000 in
theorem spec_l3Stat.calls (a0 : Int) (r : Bool) (w : World) (h : spec_l3Stat.f a0 = some r) :
  Calls Tryd.prog 129 #[.int .i64 a0] w fun e w' => e = .returned (.bool r) ∧ Drawn0 w w' := by
 have H : (if a0 ≥ 0 then (some (decide (a0 ≤ 2147483647))) else (some false)) = some r := h
 clear h
 by_cases c2 : a0 ≥ 0
 ·rw [if_pos c2] at H
  have c2b0 : decide (0 ≤ a0) = true := decide_eq_true c2
  clear c2
  obtain rfl := Option.some.inj H
  go_enter Tryd.func129, Tryd.ntmps129
  go_wp2
  go_ret
  exact ⟨by first | rfl | (simp; done) | (simp [*]; done), by repeat (first | exact Drawn0.refl _ | apply Drawn0.step)⟩
 ·rw [if_neg c2] at H
  have c2b0 : decide (0 ≤ a0) = false := decide_eq_false c2
  clear c2
  obtain rfl := Option.some.inj H
  go_enter Tryd.func129, Tryd.ntmps129
  go_wp2
  go_ret
  exact ⟨by first | rfl | (simp; done) | (simp [*]; done), by repeat (first | exact Drawn0.refl _ | apply Drawn0.step)⟩

def spec_l3ValidNode.f (k : Nat) (a0_0 : ByteArray) (a0_1 : ByteArray) (a0_2 : Int) (a0_3 : Int) (a0_4 : Int) (a0_5 : Int) (a0_6 : Int) : Option (Bool) := (spec_ValidPath.f k a0_0).bind fun t130 => (if t130 = true then (if (a0_1.size : Int) ≤ 64 then ((spec_l3Stat.f a0_2).bind fun t131 => (if t131 = true then ((spec_l3Stat.f a0_3).bind fun t132 => (if t132 = true then ((spec_l3Stat.f a0_4).bind fun t133 => (if t133 = true then ((spec_l3Stat.f a0_5).bind fun t134 => (if t134 = true then ((spec_l3Stat.f a0_6).bind fun t135 => (some t135)) else (some false))) else (some false))) else (some false))) else (some false))) else (some false)) else (some false))
theorem spec_l3ValidNode.mono : ∀ a0 a1 a2 a3 a4 a5 a6 k, LeO (spec_l3ValidNode.f k a0 a1 a2 a3 a4 a5 a6) (spec_l3ValidNode.f (k + 1) a0 a1 a2 a3 a4 a5 a6) := by
 intro a0 a1 a2 a3 a4 a5 a6 k
 unfold spec_l3ValidNode.f
 repeat' first
   | (with_reducible exact spec_ValidPath.mono _ _)
   | (with_reducible exact LeO.refl _)
   | (with_reducible exact LeO.none _)
   | (with_reducible refine LeO.ite ?_ ?_)
   | (with_reducible refine LeO.bind ?_ (fun _ => ?_))
   | exact spec_ValidPath.mono _ _
   | exact LeO.none _
   | refine LeO.ite ?_ ?_
   | refine LeO.bind ?_ (fun _ => ?_)
set_option maxHeartbeats 8000000 in
set_option maxRecDepth 100000 in
theorem spec_l3ValidNode.calls (k : Nat) (a0_0 : ByteArray) (a0_1 : ByteArray) (a0_2 : Int) (a0_3 : Int) (a0_4 : Int) (a0_5 : Int) (a0_6 : Int) (r : Bool) (w : World) (h : spec_l3ValidNode.f k a0_0 a0_1 a0_2 a0_3 a0_4 a0_5 a0_6 = some r) :
  Calls Tryd.prog 90 #[.agg #[.string a0_0, .string a0_1, .int .i64 a0_2, .int .i64 a0_3, .int .i64 a0_4, .int .i64 a0_5, .int .i64 a0_6]] w fun e w' => e = .returned (.bool r) ∧ Below w.heap.size w w' := by
 have hu77 := Tryd.underlying77
 have HB := Aside0.mk (Below.refl w.heap.size w)
 have H : ((spec_ValidPath.f k a0_0).bind fun t130 => (if t130 = true then (if (a0_1.size : Int) ≤ 64 then ((spec_l3Stat.f a0_2).bind fun t131 => (if t131 = true then ((spec_l3Stat.f a0_3).bind fun t132 => (if t132 = true then ((spec_l3Stat.f a0_4).bind fun t133 => (if t133 = true then ((spec_l3Stat.f a0_5).bind fun t134 => (if t134 = true then ((spec_l3Stat.f a0_6).bind fun t135 => (some t135)) else (some false))) else (some false))) else (some false))) else (some false))) else (some false)) else (some false))) = some r := h
 clear h
 replace H := Option.bind_eq_some_iff.mp H
 obtain ⟨t130, A20, H⟩ := H
 try dsimp only at H
 have A2 := Aside0.mk A20
 clear A20
 by_cases c3 : t130 = true
 ·subst c3
  rw [if_pos rfl] at H
  by_cases c4 : (a0_1.size : Int) ≤ 64
  ·rw [if_pos c4] at H
   have c4b0 : decide ((a0_1.size : Int) ≤ 64) = true := decide_eq_true c4
   have c4b1 : decide (a0_1.size ≤ 64) = true := decide_eq_true (by omega)
   clear c4
   replace H := Option.bind_eq_some_iff.mp H
   obtain ⟨t131, A50, H⟩ := H
   try dsimp only at H
   have A5 := Aside0.mk A50
   clear A50
   by_cases c6 : t131 = true
   ·subst c6
    rw [if_pos rfl] at H
    replace H := Option.bind_eq_some_iff.mp H
    obtain ⟨t132, A70, H⟩ := H
    try dsimp only at H
    have A7 := Aside0.mk A70
    clear A70
    by_cases c8 : t132 = true
    ·subst c8
     rw [if_pos rfl] at H
     replace H := Option.bind_eq_some_iff.mp H
     obtain ⟨t133, A90, H⟩ := H
     try dsimp only at H
     have A9 := Aside0.mk A90
     clear A90
     by_cases c10 : t133 = true
     ·subst c10
      rw [if_pos rfl] at H
      replace H := Option.bind_eq_some_iff.mp H
      obtain ⟨t134, A110, H⟩ := H
      try dsimp only at H
      have A11 := Aside0.mk A110
      clear A110
      by_cases c12 : t134 = true
      ·subst c12
       rw [if_pos rfl] at H
       replace H := Option.bind_eq_some_iff.mp H
       obtain ⟨t135, A130, H⟩ := H
       try dsimp only at H
       have A13 := Aside0.mk A130
       clear A130
       obtain rfl := Option.some.inj H
       go_enter Tryd.func90, Tryd.ntmps90
       go_wp2_with (first | ((with_reducible refine zu (N := 1) rfl ?_); (try (refine gate_guard (by rfl) ?_; dsimp only)); refine zy ?hg (N := 1) ?hd (cs := #[.string a0_0, .string a0_1, .int .i64 a0_2, .int .i64 a0_3, .int .i64 a0_4, .int .i64 a0_5, .int .i64 a0_6]) (t := 77) ?hr ?_; (case hd => rfl); (case hg => rfl); (case hr => first | (go_simp; done) | (go_simp; rfl)); intro zB hg w14 hbox hb; have n0_ := Aside0.mk (zn (by exact bl HB.out) hb); have n1_ := Aside0.mk (hbox); have n2_ := Aside0.mk ((by rw [hg]; exact (zm (by exact bl HB.out)) : w.heap.size ≤ zB)); have n3_ := Aside0.mk ((by rw [hg]; exact (zm (by exact bl HB.out)) : w.heap.size ≤ zB)); clear HB; have HB := n0_; have zA := n1_; have GW129 := n2_; have zC := n3_; clear n0_ n1_ n2_ n3_; clear hb hbox hg; have zD : w14.cell? ⟨zB, 0, none⟩ = some (.string a0_0) := (zc zA.out 0).trans rfl; have zE : w14.cell? ⟨zB, 1, none⟩ = some (.string a0_1) := (zc zA.out 1).trans rfl; have zF : w14.cell? ⟨zB, 2, none⟩ = some (.int .i64 a0_2) := (zc zA.out 2).trans rfl; have zG : w14.cell? ⟨zB, 3, none⟩ = some (.int .i64 a0_3) := (zc zA.out 3).trans rfl; have zH : w14.cell? ⟨zB, 4, none⟩ = some (.int .i64 a0_4) := (zc zA.out 4).trans rfl; have zI : w14.cell? ⟨zB, 5, none⟩ = some (.int .i64 a0_5) := (zc zA.out 5).trans rfl; have zJ : w14.cell? ⟨zB, 6, none⟩ = some (.int .i64 a0_6) := (zc zA.out 6).trans rfl; have zK := ze zA.out 0; have zL := ze zA.out 1; have zM := ze zA.out 2; have zN := ze zA.out 3; have zO := ze zA.out 4; have zP := ze zA.out 5; have zQ := ze zA.out 6) | ((with_reducible refine zr (f := 128) rfl ?_); refine zz (some 5) rfl rfl Tryd.func128 (by kernel_rfl) rfl #[.string a0_0] rfl (by (try simp only [List.map_toArray, List.map_cons, List.map_nil]); first | done | rfl) ?_; (with_reducible refine (spec_ValidPath.calls k a0_0 true _ A2.out).mono ?_); rintro e w16 ⟨rfl, hb⟩; refine ⟨_, rfl, ?_⟩; have n0_ := Aside0.mk (zi (g := zB) (o := .cells #[.string a0_0, .string a0_1, .int .i64 a0_2, .int .i64 a0_3, .int .i64 a0_4, .int .i64 a0_5, .int .i64 a0_6] 77 (0, 0)) (BL zA.out) hb); have n1_ := Aside0.mk (zn (by exact bl HB.out) hb); clear zA; clear HB; have zA := n0_; have HB := n1_; clear n0_ n1_; (try clear hb); (try clear hb2); (try clear hk); (try clear hi); have zR : w16.cell? ⟨zB, 0, none⟩ = some (.string a0_0) := (zc zA.out 0).trans rfl; have zS : w16.cell? ⟨zB, 1, none⟩ = some (.string a0_1) := (zc zA.out 1).trans rfl; have zT : w16.cell? ⟨zB, 2, none⟩ = some (.int .i64 a0_2) := (zc zA.out 2).trans rfl; have zU : w16.cell? ⟨zB, 3, none⟩ = some (.int .i64 a0_3) := (zc zA.out 3).trans rfl; have zV : w16.cell? ⟨zB, 4, none⟩ = some (.int .i64 a0_4) := (zc zA.out 4).trans rfl; have zW : w16.cell? ⟨zB, 5, none⟩ = some (.int .i64 a0_5) := (zc zA.out 5).trans rfl; have zX : w16.cell? ⟨zB, 6, none⟩ = some (.int .i64 a0_6) := (zc zA.out 6).trans rfl; have zY := ze zA.out 0; have zZ := ze zA.out 1; have zab := ze zA.out 2; have zbb := ze zA.out 3; have zcb := ze zA.out 4; have zdb := ze zA.out 5; have zeb := ze zA.out 6) | (go_at_call 129; (with_reducible refine (spec_l3Stat.calls a0_2 true _ A5.out).mono ?_); rintro e w' ⟨rfl, ⟨nd, rfl⟩⟩) | (go_at_call 129; (with_reducible refine (spec_l3Stat.calls a0_3 true _ A7.out).mono ?_); rintro e w' ⟨rfl, ⟨nd, rfl⟩⟩) | (go_at_call 129; (with_reducible refine (spec_l3Stat.calls a0_4 true _ A9.out).mono ?_); rintro e w' ⟨rfl, ⟨nd, rfl⟩⟩) | (go_at_call 129; (with_reducible refine (spec_l3Stat.calls a0_5 true _ A11.out).mono ?_); rintro e w' ⟨rfl, ⟨nd, rfl⟩⟩) | (go_at_call 129; (with_reducible refine (spec_l3Stat.calls a0_6 t135 _ A13.out).mono ?_); rintro e w' ⟨rfl, ⟨nd, rfl⟩⟩))
       go_ret
       exact ⟨by first | rfl | (simp [*] <;> rfl), by repeat (first | (with_reducible first | exact HB.out | apply zh | apply zf | apply zg | refine zd ?_ zC.out) | exact HB.out)⟩
      ·replace c12 := Bool.eq_false_iff.mpr c12
       subst c12
       rw [if_neg (show ¬ (false = true) by decide)] at H
       obtain rfl := Option.some.inj H
       go_enter Tryd.func90, Tryd.ntmps90
       go_wp2_with (first | ((with_reducible refine zu (N := 1) rfl ?_); (try (refine gate_guard (by rfl) ?_; dsimp only)); refine zy ?hg (N := 1) ?hd (cs := #[.string a0_0, .string a0_1, .int .i64 a0_2, .int .i64 a0_3, .int .i64 a0_4, .int .i64 a0_5, .int .i64 a0_6]) (t := 77) ?hr ?_; (case hd => rfl); (case hg => rfl); (case hr => first | (go_simp; done) | (go_simp; rfl)); intro zB hg w18 hbox hb; have n0_ := Aside0.mk (zn (by exact bl HB.out) hb); have n1_ := Aside0.mk (hbox); have n2_ := Aside0.mk ((by rw [hg]; exact (zm (by exact bl HB.out)) : w.heap.size ≤ zB)); have n3_ := Aside0.mk ((by rw [hg]; exact (zm (by exact bl HB.out)) : w.heap.size ≤ zB)); clear HB; have HB := n0_; have zA := n1_; have GW129 := n2_; have zC := n3_; clear n0_ n1_ n2_ n3_; clear hb hbox hg; have zfb : w18.cell? ⟨zB, 0, none⟩ = some (.string a0_0) := (zc zA.out 0).trans rfl; have zgb : w18.cell? ⟨zB, 1, none⟩ = some (.string a0_1) := (zc zA.out 1).trans rfl; have zhb : w18.cell? ⟨zB, 2, none⟩ = some (.int .i64 a0_2) := (zc zA.out 2).trans rfl; have zib : w18.cell? ⟨zB, 3, none⟩ = some (.int .i64 a0_3) := (zc zA.out 3).trans rfl; have zjb : w18.cell? ⟨zB, 4, none⟩ = some (.int .i64 a0_4) := (zc zA.out 4).trans rfl; have zkb : w18.cell? ⟨zB, 5, none⟩ = some (.int .i64 a0_5) := (zc zA.out 5).trans rfl; have zlb : w18.cell? ⟨zB, 6, none⟩ = some (.int .i64 a0_6) := (zc zA.out 6).trans rfl; have zmb := ze zA.out 0; have znb := ze zA.out 1; have zob := ze zA.out 2; have zpb := ze zA.out 3; have zqb := ze zA.out 4; have zrb := ze zA.out 5; have zsb := ze zA.out 6) | ((with_reducible refine zr (f := 128) rfl ?_); refine zz (some 5) rfl rfl Tryd.func128 (by kernel_rfl) rfl #[.string a0_0] rfl (by (try simp only [List.map_toArray, List.map_cons, List.map_nil]); first | done | rfl) ?_; (with_reducible refine (spec_ValidPath.calls k a0_0 true _ A2.out).mono ?_); rintro e w20 ⟨rfl, hb⟩; refine ⟨_, rfl, ?_⟩; have n0_ := Aside0.mk (zi (g := zB) (o := .cells #[.string a0_0, .string a0_1, .int .i64 a0_2, .int .i64 a0_3, .int .i64 a0_4, .int .i64 a0_5, .int .i64 a0_6] 77 (0, 0)) (BL zA.out) hb); have n1_ := Aside0.mk (zn (by exact bl HB.out) hb); clear zA; clear HB; have zA := n0_; have HB := n1_; clear n0_ n1_; (try clear hb); (try clear hb2); (try clear hk); (try clear hi); have ztb : w20.cell? ⟨zB, 0, none⟩ = some (.string a0_0) := (zc zA.out 0).trans rfl; have zub : w20.cell? ⟨zB, 1, none⟩ = some (.string a0_1) := (zc zA.out 1).trans rfl; have zvb : w20.cell? ⟨zB, 2, none⟩ = some (.int .i64 a0_2) := (zc zA.out 2).trans rfl; have zwb : w20.cell? ⟨zB, 3, none⟩ = some (.int .i64 a0_3) := (zc zA.out 3).trans rfl; have zxb : w20.cell? ⟨zB, 4, none⟩ = some (.int .i64 a0_4) := (zc zA.out 4).trans rfl; have zyb : w20.cell? ⟨zB, 5, none⟩ = some (.int .i64 a0_5) := (zc zA.out 5).trans rfl; have zzb : w20.cell? ⟨zB, 6, none⟩ = some (.int .i64 a0_6) := (zc zA.out 6).trans rfl; have zAb := ze zA.out 0; have zBb := ze zA.out 1; have zCb := ze zA.out 2; have zDb := ze zA.out 3; have zEb := ze zA.out 4; have zFb := ze zA.out 5; have zGb := ze zA.out 6) | (go_at_call 129; (with_reducible refine (spec_l3Stat.calls a0_2 true _ A5.out).mono ?_); rintro e w' ⟨rfl, ⟨nd, rfl⟩⟩) | (go_at_call 129; (with_reducible refine (spec_l3Stat.calls a0_3 true _ A7.out).mono ?_); rintro e w' ⟨rfl, ⟨nd, rfl⟩⟩) | (go_at_call 129; (with_reducible refine (spec_l3Stat.calls a0_4 true _ A9.out).mono ?_); rintro e w' ⟨rfl, ⟨nd, rfl⟩⟩) | (go_at_call 129; (with_reducible refine (spec_l3Stat.calls a0_5 false _ A11.out).mono ?_); rintro e w' ⟨rfl, ⟨nd, rfl⟩⟩))
       go_ret
       exact ⟨by first | rfl | (simp [*] <;> rfl), by repeat (first | (with_reducible first | exact HB.out | apply zh | apply zf | apply zg | refine zd ?_ zC.out) | exact HB.out)⟩
     ·replace c10 := Bool.eq_false_iff.mpr c10
      subst c10
      rw [if_neg (show ¬ (false = true) by decide)] at H
      obtain rfl := Option.some.inj H
      go_enter Tryd.func90, Tryd.ntmps90
      go_wp2_with (first | ((with_reducible refine zu (N := 1) rfl ?_); (try (refine gate_guard (by rfl) ?_; dsimp only)); refine zy ?hg (N := 1) ?hd (cs := #[.string a0_0, .string a0_1, .int .i64 a0_2, .int .i64 a0_3, .int .i64 a0_4, .int .i64 a0_5, .int .i64 a0_6]) (t := 77) ?hr ?_; (case hd => rfl); (case hg => rfl); (case hr => first | (go_simp; done) | (go_simp; rfl)); intro zB hg w22 hbox hb; have n0_ := Aside0.mk (zn (by exact bl HB.out) hb); have n1_ := Aside0.mk (hbox); have n2_ := Aside0.mk ((by rw [hg]; exact (zm (by exact bl HB.out)) : w.heap.size ≤ zB)); have n3_ := Aside0.mk ((by rw [hg]; exact (zm (by exact bl HB.out)) : w.heap.size ≤ zB)); clear HB; have HB := n0_; have zA := n1_; have GW129 := n2_; have zC := n3_; clear n0_ n1_ n2_ n3_; clear hb hbox hg; have zHb : w22.cell? ⟨zB, 0, none⟩ = some (.string a0_0) := (zc zA.out 0).trans rfl; have zIb : w22.cell? ⟨zB, 1, none⟩ = some (.string a0_1) := (zc zA.out 1).trans rfl; have zJb : w22.cell? ⟨zB, 2, none⟩ = some (.int .i64 a0_2) := (zc zA.out 2).trans rfl; have zKb : w22.cell? ⟨zB, 3, none⟩ = some (.int .i64 a0_3) := (zc zA.out 3).trans rfl; have zLb : w22.cell? ⟨zB, 4, none⟩ = some (.int .i64 a0_4) := (zc zA.out 4).trans rfl; have zMb : w22.cell? ⟨zB, 5, none⟩ = some (.int .i64 a0_5) := (zc zA.out 5).trans rfl; have zNb : w22.cell? ⟨zB, 6, none⟩ = some (.int .i64 a0_6) := (zc zA.out 6).trans rfl; have zOb := ze zA.out 0; have zPb := ze zA.out 1; have zQb := ze zA.out 2; have zRb := ze zA.out 3; have zSb := ze zA.out 4; have zTb := ze zA.out 5; have zUb := ze zA.out 6) | ((with_reducible refine zr (f := 128) rfl ?_); refine zz (some 5) rfl rfl Tryd.func128 (by kernel_rfl) rfl #[.string a0_0] rfl (by (try simp only [List.map_toArray, List.map_cons, List.map_nil]); first | done | rfl) ?_; (with_reducible refine (spec_ValidPath.calls k a0_0 true _ A2.out).mono ?_); rintro e w24 ⟨rfl, hb⟩; refine ⟨_, rfl, ?_⟩; have n0_ := Aside0.mk (zi (g := zB) (o := .cells #[.string a0_0, .string a0_1, .int .i64 a0_2, .int .i64 a0_3, .int .i64 a0_4, .int .i64 a0_5, .int .i64 a0_6] 77 (0, 0)) (BL zA.out) hb); have n1_ := Aside0.mk (zn (by exact bl HB.out) hb); clear zA; clear HB; have zA := n0_; have HB := n1_; clear n0_ n1_; (try clear hb); (try clear hb2); (try clear hk); (try clear hi); have zVb : w24.cell? ⟨zB, 0, none⟩ = some (.string a0_0) := (zc zA.out 0).trans rfl; have zWb : w24.cell? ⟨zB, 1, none⟩ = some (.string a0_1) := (zc zA.out 1).trans rfl; have zXb : w24.cell? ⟨zB, 2, none⟩ = some (.int .i64 a0_2) := (zc zA.out 2).trans rfl; have zYb : w24.cell? ⟨zB, 3, none⟩ = some (.int .i64 a0_3) := (zc zA.out 3).trans rfl; have zZb : w24.cell? ⟨zB, 4, none⟩ = some (.int .i64 a0_4) := (zc zA.out 4).trans rfl; have zac : w24.cell? ⟨zB, 5, none⟩ = some (.int .i64 a0_5) := (zc zA.out 5).trans rfl; have zbc : w24.cell? ⟨zB, 6, none⟩ = some (.int .i64 a0_6) := (zc zA.out 6).trans rfl; have zcc := ze zA.out 0; have zdc := ze zA.out 1; have zec := ze zA.out 2; have zfc := ze zA.out 3; have zgc := ze zA.out 4; have zhc := ze zA.out 5; have zic := ze zA.out 6) | (go_at_call 129; (with_reducible refine (spec_l3Stat.calls a0_2 true _ A5.out).mono ?_); rintro e w' ⟨rfl, ⟨nd, rfl⟩⟩) | (go_at_call 129; (with_reducible refine (spec_l3Stat.calls a0_3 true _ A7.out).mono ?_); rintro e w' ⟨rfl, ⟨nd, rfl⟩⟩) | (go_at_call 129; (with_reducible refine (spec_l3Stat.calls a0_4 false _ A9.out).mono ?_); rintro e w' ⟨rfl, ⟨nd, rfl⟩⟩))
      go_ret
      exact ⟨by first | rfl | (simp [*] <;> rfl), by repeat (first | (with_reducible first | exact HB.out | apply zh | apply zf | apply zg | refine zd ?_ zC.out) | exact HB.out)⟩
    ·replace c8 := Bool.eq_false_iff.mpr c8
     subst c8
     rw [if_neg (show ¬ (false = true) by decide)] at H
     obtain rfl := Option.some.inj H
     go_enter Tryd.func90, Tryd.ntmps90
     go_wp2_with (first | ((with_reducible refine zu (N := 1) rfl ?_); (try (refine gate_guard (by rfl) ?_; dsimp only)); refine zy ?hg (N := 1) ?hd (cs := #[.string a0_0, .string a0_1, .int .i64 a0_2, .int .i64 a0_3, .int .i64 a0_4, .int .i64 a0_5, .int .i64 a0_6]) (t := 77) ?hr ?_; (case hd => rfl); (case hg => rfl); (case hr => first | (go_simp; done) | (go_simp; rfl)); intro zB hg w26 hbox hb; have n0_ := Aside0.mk (zn (by exact bl HB.out) hb); have n1_ := Aside0.mk (hbox); have n2_ := Aside0.mk ((by rw [hg]; exact (zm (by exact bl HB.out)) : w.heap.size ≤ zB)); have n3_ := Aside0.mk ((by rw [hg]; exact (zm (by exact bl HB.out)) : w.heap.size ≤ zB)); clear HB; have HB := n0_; have zA := n1_; have GW129 := n2_; have zC := n3_; clear n0_ n1_ n2_ n3_; clear hb hbox hg; have zjc : w26.cell? ⟨zB, 0, none⟩ = some (.string a0_0) := (zc zA.out 0).trans rfl; have zkc : w26.cell? ⟨zB, 1, none⟩ = some (.string a0_1) := (zc zA.out 1).trans rfl; have zlc : w26.cell? ⟨zB, 2, none⟩ = some (.int .i64 a0_2) := (zc zA.out 2).trans rfl; have zmc : w26.cell? ⟨zB, 3, none⟩ = some (.int .i64 a0_3) := (zc zA.out 3).trans rfl; have znc : w26.cell? ⟨zB, 4, none⟩ = some (.int .i64 a0_4) := (zc zA.out 4).trans rfl; have zoc : w26.cell? ⟨zB, 5, none⟩ = some (.int .i64 a0_5) := (zc zA.out 5).trans rfl; have zpc : w26.cell? ⟨zB, 6, none⟩ = some (.int .i64 a0_6) := (zc zA.out 6).trans rfl; have zqc := ze zA.out 0; have zrc := ze zA.out 1; have zsc := ze zA.out 2; have ztc := ze zA.out 3; have zuc := ze zA.out 4; have zvc := ze zA.out 5; have zwc := ze zA.out 6) | ((with_reducible refine zr (f := 128) rfl ?_); refine zz (some 5) rfl rfl Tryd.func128 (by kernel_rfl) rfl #[.string a0_0] rfl (by (try simp only [List.map_toArray, List.map_cons, List.map_nil]); first | done | rfl) ?_; (with_reducible refine (spec_ValidPath.calls k a0_0 true _ A2.out).mono ?_); rintro e w28 ⟨rfl, hb⟩; refine ⟨_, rfl, ?_⟩; have n0_ := Aside0.mk (zi (g := zB) (o := .cells #[.string a0_0, .string a0_1, .int .i64 a0_2, .int .i64 a0_3, .int .i64 a0_4, .int .i64 a0_5, .int .i64 a0_6] 77 (0, 0)) (BL zA.out) hb); have n1_ := Aside0.mk (zn (by exact bl HB.out) hb); clear zA; clear HB; have zA := n0_; have HB := n1_; clear n0_ n1_; (try clear hb); (try clear hb2); (try clear hk); (try clear hi); have zxc : w28.cell? ⟨zB, 0, none⟩ = some (.string a0_0) := (zc zA.out 0).trans rfl; have zyc : w28.cell? ⟨zB, 1, none⟩ = some (.string a0_1) := (zc zA.out 1).trans rfl; have zzc : w28.cell? ⟨zB, 2, none⟩ = some (.int .i64 a0_2) := (zc zA.out 2).trans rfl; have zAc : w28.cell? ⟨zB, 3, none⟩ = some (.int .i64 a0_3) := (zc zA.out 3).trans rfl; have zBc : w28.cell? ⟨zB, 4, none⟩ = some (.int .i64 a0_4) := (zc zA.out 4).trans rfl; have zCc : w28.cell? ⟨zB, 5, none⟩ = some (.int .i64 a0_5) := (zc zA.out 5).trans rfl; have zDc : w28.cell? ⟨zB, 6, none⟩ = some (.int .i64 a0_6) := (zc zA.out 6).trans rfl; have zEc := ze zA.out 0; have zFc := ze zA.out 1; have zGc := ze zA.out 2; have zHc := ze zA.out 3; have zIc := ze zA.out 4; have zJc := ze zA.out 5; have zKc := ze zA.out 6) | (go_at_call 129; (with_reducible refine (spec_l3Stat.calls a0_2 true _ A5.out).mono ?_); rintro e w' ⟨rfl, ⟨nd, rfl⟩⟩) | (go_at_call 129; (with_reducible refine (spec_l3Stat.calls a0_3 false _ A7.out).mono ?_); rintro e w' ⟨rfl, ⟨nd, rfl⟩⟩))
     go_ret
     exact ⟨by first | rfl | (simp [*] <;> rfl), by repeat (first | (with_reducible first | exact HB.out | apply zh | apply zf | apply zg | refine zd ?_ zC.out) | exact HB.out)⟩
   ·replace c6 := Bool.eq_false_iff.mpr c6
    subst c6
    rw [if_neg (show ¬ (false = true) by decide)] at H
    obtain rfl := Option.some.inj H
    go_enter Tryd.func90, Tryd.ntmps90
    go_wp2_with (first | ((with_reducible refine zu (N := 1) rfl ?_); (try (refine gate_guard (by rfl) ?_; dsimp only)); refine zy ?hg (N := 1) ?hd (cs := #[.string a0_0, .string a0_1, .int .i64 a0_2, .int .i64 a0_3, .int .i64 a0_4, .int .i64 a0_5, .int .i64 a0_6]) (t := 77) ?hr ?_; (case hd => rfl); (case hg => rfl); (case hr => first | (go_simp; done) | (go_simp; rfl)); intro zB hg w30 hbox hb; have n0_ := Aside0.mk (zn (by exact bl HB.out) hb); have n1_ := Aside0.mk (hbox); have n2_ := Aside0.mk ((by rw [hg]; exact (zm (by exact bl HB.out)) : w.heap.size ≤ zB)); have n3_ := Aside0.mk ((by rw [hg]; exact (zm (by exact bl HB.out)) : w.heap.size ≤ zB)); clear HB; have HB := n0_; have zA := n1_; have GW129 := n2_; have zC := n3_; clear n0_ n1_ n2_ n3_; clear hb hbox hg; have zLc : w30.cell? ⟨zB, 0, none⟩ = some (.string a0_0) := (zc zA.out 0).trans rfl; have zMc : w30.cell? ⟨zB, 1, none⟩ = some (.string a0_1) := (zc zA.out 1).trans rfl; have zNc : w30.cell? ⟨zB, 2, none⟩ = some (.int .i64 a0_2) := (zc zA.out 2).trans rfl; have zOc : w30.cell? ⟨zB, 3, none⟩ = some (.int .i64 a0_3) := (zc zA.out 3).trans rfl; have zPc : w30.cell? ⟨zB, 4, none⟩ = some (.int .i64 a0_4) := (zc zA.out 4).trans rfl; have zQc : w30.cell? ⟨zB, 5, none⟩ = some (.int .i64 a0_5) := (zc zA.out 5).trans rfl; have zRc : w30.cell? ⟨zB, 6, none⟩ = some (.int .i64 a0_6) := (zc zA.out 6).trans rfl; have zSc := ze zA.out 0; have zTc := ze zA.out 1; have zUc := ze zA.out 2; have zVc := ze zA.out 3; have zWc := ze zA.out 4; have zXc := ze zA.out 5; have zYc := ze zA.out 6) | ((with_reducible refine zr (f := 128) rfl ?_); refine zz (some 5) rfl rfl Tryd.func128 (by kernel_rfl) rfl #[.string a0_0] rfl (by (try simp only [List.map_toArray, List.map_cons, List.map_nil]); first | done | rfl) ?_; (with_reducible refine (spec_ValidPath.calls k a0_0 true _ A2.out).mono ?_); rintro e w32 ⟨rfl, hb⟩; refine ⟨_, rfl, ?_⟩; have n0_ := Aside0.mk (zi (g := zB) (o := .cells #[.string a0_0, .string a0_1, .int .i64 a0_2, .int .i64 a0_3, .int .i64 a0_4, .int .i64 a0_5, .int .i64 a0_6] 77 (0, 0)) (BL zA.out) hb); have n1_ := Aside0.mk (zn (by exact bl HB.out) hb); clear zA; clear HB; have zA := n0_; have HB := n1_; clear n0_ n1_; (try clear hb); (try clear hb2); (try clear hk); (try clear hi); have zZc : w32.cell? ⟨zB, 0, none⟩ = some (.string a0_0) := (zc zA.out 0).trans rfl; have zad : w32.cell? ⟨zB, 1, none⟩ = some (.string a0_1) := (zc zA.out 1).trans rfl; have zbd : w32.cell? ⟨zB, 2, none⟩ = some (.int .i64 a0_2) := (zc zA.out 2).trans rfl; have zcd : w32.cell? ⟨zB, 3, none⟩ = some (.int .i64 a0_3) := (zc zA.out 3).trans rfl; have zdd : w32.cell? ⟨zB, 4, none⟩ = some (.int .i64 a0_4) := (zc zA.out 4).trans rfl; have zed : w32.cell? ⟨zB, 5, none⟩ = some (.int .i64 a0_5) := (zc zA.out 5).trans rfl; have zfd : w32.cell? ⟨zB, 6, none⟩ = some (.int .i64 a0_6) := (zc zA.out 6).trans rfl; have zgd := ze zA.out 0; have zhd := ze zA.out 1; have zid := ze zA.out 2; have zjd := ze zA.out 3; have zkd := ze zA.out 4; have zld := ze zA.out 5; have zmd := ze zA.out 6) | (go_at_call 129; (with_reducible refine (spec_l3Stat.calls a0_2 false _ A5.out).mono ?_); rintro e w' ⟨rfl, ⟨nd, rfl⟩⟩))
    go_ret
    exact ⟨by first | rfl | (simp [*] <;> rfl), by repeat (first | (with_reducible first | exact HB.out | apply zh | apply zf | apply zg | refine zd ?_ zC.out) | exact HB.out)⟩
  ·rw [if_neg c4] at H
   have c4b0 : decide ((a0_1.size : Int) ≤ 64) = false := decide_eq_false c4
   have c4b1 : decide (a0_1.size ≤ 64) = false := decide_eq_false (by omega)
   clear c4
   obtain rfl := Option.some.inj H
   go_enter Tryd.func90, Tryd.ntmps90
   go_wp2_with (first | ((with_reducible refine zu (N := 1) rfl ?_); (try (refine gate_guard (by rfl) ?_; dsimp only)); refine zy ?hg (N := 1) ?hd (cs := #[.string a0_0, .string a0_1, .int .i64 a0_2, .int .i64 a0_3, .int .i64 a0_4, .int .i64 a0_5, .int .i64 a0_6]) (t := 77) ?hr ?_; (case hd => rfl); (case hg => rfl); (case hr => first | (go_simp; done) | (go_simp; rfl)); intro zB hg w34 hbox hb; have n0_ := Aside0.mk (zn (by exact bl HB.out) hb); have n1_ := Aside0.mk (hbox); have n2_ := Aside0.mk ((by rw [hg]; exact (zm (by exact bl HB.out)) : w.heap.size ≤ zB)); have n3_ := Aside0.mk ((by rw [hg]; exact (zm (by exact bl HB.out)) : w.heap.size ≤ zB)); clear HB; have HB := n0_; have zA := n1_; have GW129 := n2_; have zC := n3_; clear n0_ n1_ n2_ n3_; clear hb hbox hg; have znd : w34.cell? ⟨zB, 0, none⟩ = some (.string a0_0) := (zc zA.out 0).trans rfl; have zod : w34.cell? ⟨zB, 1, none⟩ = some (.string a0_1) := (zc zA.out 1).trans rfl; have zpd : w34.cell? ⟨zB, 2, none⟩ = some (.int .i64 a0_2) := (zc zA.out 2).trans rfl; have zqd : w34.cell? ⟨zB, 3, none⟩ = some (.int .i64 a0_3) := (zc zA.out 3).trans rfl; have zrd : w34.cell? ⟨zB, 4, none⟩ = some (.int .i64 a0_4) := (zc zA.out 4).trans rfl; have zsd : w34.cell? ⟨zB, 5, none⟩ = some (.int .i64 a0_5) := (zc zA.out 5).trans rfl; have ztd : w34.cell? ⟨zB, 6, none⟩ = some (.int .i64 a0_6) := (zc zA.out 6).trans rfl; have zud := ze zA.out 0; have zvd := ze zA.out 1; have zwd := ze zA.out 2; have zxd := ze zA.out 3; have zyd := ze zA.out 4; have zzd := ze zA.out 5; have zAd := ze zA.out 6) | ((with_reducible refine zr (f := 128) rfl ?_); refine zz (some 5) rfl rfl Tryd.func128 (by kernel_rfl) rfl #[.string a0_0] rfl (by (try simp only [List.map_toArray, List.map_cons, List.map_nil]); first | done | rfl) ?_; (with_reducible refine (spec_ValidPath.calls k a0_0 true _ A2.out).mono ?_); rintro e w36 ⟨rfl, hb⟩; refine ⟨_, rfl, ?_⟩; have n0_ := Aside0.mk (zi (g := zB) (o := .cells #[.string a0_0, .string a0_1, .int .i64 a0_2, .int .i64 a0_3, .int .i64 a0_4, .int .i64 a0_5, .int .i64 a0_6] 77 (0, 0)) (BL zA.out) hb); have n1_ := Aside0.mk (zn (by exact bl HB.out) hb); clear zA; clear HB; have zA := n0_; have HB := n1_; clear n0_ n1_; (try clear hb); (try clear hb2); (try clear hk); (try clear hi); have zBd : w36.cell? ⟨zB, 0, none⟩ = some (.string a0_0) := (zc zA.out 0).trans rfl; have zCd : w36.cell? ⟨zB, 1, none⟩ = some (.string a0_1) := (zc zA.out 1).trans rfl; have zDd : w36.cell? ⟨zB, 2, none⟩ = some (.int .i64 a0_2) := (zc zA.out 2).trans rfl; have zEd : w36.cell? ⟨zB, 3, none⟩ = some (.int .i64 a0_3) := (zc zA.out 3).trans rfl; have zFd : w36.cell? ⟨zB, 4, none⟩ = some (.int .i64 a0_4) := (zc zA.out 4).trans rfl; have zGd : w36.cell? ⟨zB, 5, none⟩ = some (.int .i64 a0_5) := (zc zA.out 5).trans rfl; have zHd : w36.cell? ⟨zB, 6, none⟩ = some (.int .i64 a0_6) := (zc zA.out 6).trans rfl; have zId := ze zA.out 0; have zJd := ze zA.out 1; have zKd := ze zA.out 2; have zLd := ze zA.out 3; have zMd := ze zA.out 4; have zNd := ze zA.out 5; have zOd := ze zA.out 6))
   go_ret
   exact ⟨by first | rfl | (simp [*] <;> rfl), by repeat (first | (with_reducible first | exact HB.out | apply zh | apply zf | apply zg | refine zd ?_ zC.out) | exact HB.out)⟩
 ·replace c3 := Bool.eq_false_iff.mpr c3
  subst c3
  rw [if_neg (show ¬ (false = true) by decide)] at H
  obtain rfl := Option.some.inj H
  go_enter Tryd.func90, Tryd.ntmps90
  go_wp2_with (first | ((with_reducible refine zu (N := 1) rfl ?_); (try (refine gate_guard (by rfl) ?_; dsimp only)); refine zy ?hg (N := 1) ?hd (cs := #[.string a0_0, .string a0_1, .int .i64 a0_2, .int .i64 a0_3, .int .i64 a0_4, .int .i64 a0_5, .int .i64 a0_6]) (t := 77) ?hr ?_; (case hd => rfl); (case hg => rfl); (case hr => first | (go_simp; done) | (go_simp; rfl)); intro zB hg w38 hbox hb; have n0_ := Aside0.mk (zn (by exact bl HB.out) hb); have n1_ := Aside0.mk (hbox); have n2_ := Aside0.mk ((by rw [hg]; exact (zm (by exact bl HB.out)) : w.heap.size ≤ zB)); have n3_ := Aside0.mk ((by rw [hg]; exact (zm (by exact bl HB.out)) : w.heap.size ≤ zB)); clear HB; have HB := n0_; have zA := n1_; have GW129 := n2_; have zC := n3_; clear n0_ n1_ n2_ n3_; clear hb hbox hg; have zPd : w38.cell? ⟨zB, 0, none⟩ = some (.string a0_0) := (zc zA.out 0).trans rfl; have zQd : w38.cell? ⟨zB, 1, none⟩ = some (.string a0_1) := (zc zA.out 1).trans rfl; have zRd : w38.cell? ⟨zB, 2, none⟩ = some (.int .i64 a0_2) := (zc zA.out 2).trans rfl; have zSd : w38.cell? ⟨zB, 3, none⟩ = some (.int .i64 a0_3) := (zc zA.out 3).trans rfl; have zTd : w38.cell? ⟨zB, 4, none⟩ = some (.int .i64 a0_4) := (zc zA.out 4).trans rfl; have zUd : w38.cell? ⟨zB, 5, none⟩ = some (.int .i64 a0_5) := (zc zA.out 5).trans rfl; have zVd : w38.cell? ⟨zB, 6, none⟩ = some (.int .i64 a0_6) := (zc zA.out 6).trans rfl; have zWd := ze zA.out 0; have zXd := ze zA.out 1; have zYd := ze zA.out 2; have zZd := ze zA.out 3; have zae := ze zA.out 4; have zbe := ze zA.out 5; have zce := ze zA.out 6) | ((with_reducible refine zr (f := 128) rfl ?_); refine zz (some 5) rfl rfl Tryd.func128 (by kernel_rfl) rfl #[.string a0_0] rfl (by (try simp only [List.map_toArray, List.map_cons, List.map_nil]); first | done | rfl) ?_; (with_reducible refine (spec_ValidPath.calls k a0_0 false _ A2.out).mono ?_); rintro e w40 ⟨rfl, hb⟩; refine ⟨_, rfl, ?_⟩; have n0_ := Aside0.mk (zi (g := zB) (o := .cells #[.string a0_0, .string a0_1, .int .i64 a0_2, .int .i64 a0_3, .int .i64 a0_4, .int .i64 a0_5, .int .i64 a0_6] 77 (0, 0)) (BL zA.out) hb); have n1_ := Aside0.mk (zn (by exact bl HB.out) hb); clear zA; clear HB; have zA := n0_; have HB := n1_; clear n0_ n1_; (try clear hb); (try clear hb2); (try clear hk); (try clear hi)))
  go_ret
  exact ⟨by first | rfl | (simp [*] <;> rfl), by repeat (first | (with_reducible first | exact HB.out | apply zh | apply zf | apply zg | refine zd ?_ zC.out) | exact HB.out)⟩

def spec_l3Sorted.l0 : Nat → List (S77) → Int → Option (Bool)
 | 0, _, _ => none
 | k + 1, x0, x3 => if x3 < (x0.length : Int) then (if 0 ≤ x3 then ((spec_l3ValidNode.f k ((rd_T77 x0 x3).f0) ((rd_T77 x0 x3).f1) ((rd_T77 x0 x3).f2) ((rd_T77 x0 x3).f3) ((rd_T77 x0 x3).f4) ((rd_T77 x0 x3).f5) ((rd_T77 x0 x3).f6)).bind fun t137 => (if t137 = true then (if x3 > 0 then (if 0 ≤ (wrap64 (x3 - 1)) then (if (wrap64 (x3 - 1)) < (x0.length : Int) then (if ((Op.bytesLess (((rd_T77 x0 (wrap64 (x3 - 1))).f0).toList) (((rd_T77 x0 x3).f0).toList)) = true) then (spec_l3Sorted.l0 k x0 (wrap64 (x3 + 1))) else (some false)) else (none)) else (none)) else (spec_l3Sorted.l0 k x0 (wrap64 (x3 + 1)))) else (some false))) else (none)) else (some true)
def spec_l3Sorted.f (k : Nat) (l0 : List (S77)) : Option (Bool) := spec_l3Sorted.l0 k l0 0
theorem spec_l3Sorted.mono_l : ∀ k, (∀ y0 y1, LeO (spec_l3Sorted.l0 k y0 y1) (spec_l3Sorted.l0 (k + 1) y0 y1))
 | 0 => fun _ _ r h => by simp [spec_l3Sorted.l0] at h
 | k + 1 => by
  have ih0 := spec_l3Sorted.mono_l k
  ·intro y0 y1
   unfold spec_l3Sorted.l0
   repeat' first
   | (with_reducible exact ih0 _ _)
   | (with_reducible exact spec_l3ValidNode.mono _ _ _ _ _ _ _ _)
   | (with_reducible exact LeO.refl _)
   | (with_reducible exact LeO.none _)
   | (with_reducible refine LeO.ite ?_ ?_)
   | (with_reducible refine LeO.bind ?_ (fun _ => ?_))
   | exact ih0 _ _
   | exact spec_l3ValidNode.mono _ _ _ _ _ _ _ _
   | exact LeO.none _
   | refine LeO.ite ?_ ?_
   | refine LeO.bind ?_ (fun _ => ?_)
theorem spec_l3Sorted.mono : ∀ a0 k, LeO (spec_l3Sorted.f k a0) (spec_l3Sorted.f (k + 1) a0) := by
 intro a0 k
 have ih0 := spec_l3Sorted.mono_l k
 unfold spec_l3Sorted.f
 repeat' first
   | (with_reducible exact ih0 _ _)
   | (with_reducible exact spec_l3ValidNode.mono _ _ _ _ _ _ _ _)
   | (with_reducible exact LeO.refl _)
   | (with_reducible exact LeO.none _)
   | (with_reducible refine LeO.ite ?_ ?_)
   | (with_reducible refine LeO.bind ?_ (fun _ => ?_))
   | exact ih0 _ _
   | exact spec_l3ValidNode.mono _ _ _ _ _ _ _ _
   | exact LeO.none _
   | refine LeO.ite ?_ ?_
   | refine LeO.bind ?_ (fun _ => ?_)
def spec_l3Sorted.T4 : Bool × List (List Nat × List Nat) := (true, [([], []), ([], []), ([0, 1], [0, 1]), ([2], [2]), ([3], [3]), ([4], [4]), ([5, 4], [5]), ([6], [6]), ([7, 6], [6, 7]), ([8, 6, 6], [6, 8]), ([9], [9]), ([9], [9]), ([10, 11, 9], [9, 10, 11]), ([12, 9], [9, 12]), ([13, 9], [9, 13]), ([9], [9]), ([9], [9]), ([16, 9], [9, 16]), ([15, 17, 9], [9, 15, 17]), ([18, 9], [9, 18]), ([19, 9], [9, 19]), ([14, 20, 9], [9, 14, 20]), ([9, 21, 6], [6, 9, 21]), ([6, 22], [6, 22])])
def spec_l3Sorted.B4 : List Nat := [0, 0, 3, 7, 15, 31, 63, 127, 255, 511, 1023, 1023, 4095, 8191, 16383, 1023, 1023, 66559, 230399, 492543, 1016831, 2097151, 4194303, 8388607]
theorem spec_l3Sorted.tab4 : rtab .any (opsOf Tryd.f38 4) = spec_l3Sorted.T4 := by kernel_rfl
theorem spec_l3Sorted.bits4 : waitsOk spec_l3Sorted.T4.2 spec_l3Sorted.B4 = true := by kernel_rfl
set_option maxHeartbeats 8000000 in
set_option maxRecDepth 100000 in
theorem spec_l3Sorted.calls (k : Nat) (A0 : Option Addr) (c0 : Nat) (l0 : List (S77)) (r : Bool) (w : World) (hr0 : Kd.C k77 w A0 l0.length l0) (hc0 : l0.length ≤ c0) (h : spec_l3Sorted.f k l0 = some r) :
  Calls Tryd.prog 38 #[.slice A0 l0.length c0] w fun e w' => e = .returned (.bool r) ∧ Below w.heap.size w w' := by
 have hu77 := Tryd.underlying77
 have HR0 := Aside0.mk hr0
 have HC0 := Aside0.mk hc0
 clear hr0 hc0
 have HB := Aside0.mk (Below.refl w.heap.size w)
 have H : (spec_l3Sorted.l0 k l0 0) = some r := h
 clear h
 have H' := Aside0.mk H
 clear H
 go_enter Tryd.func38, Tryd.ntmps38
 go_wp2
 go_loopg [3] k (fun kq v3 w' => ∃ (x3_1 : Int), v3 = .int .i64 x3_1 ∧ Aside0 (spec_l3Sorted.l0 kq l0 x3_1 = some r) ∧ Aside0 (kq ≤ k) ∧ Aside0 (Below w.heap.size w w'))
 case atStart => exact ⟨(0), (by first | rfl | (simp [*]; done)), H', ⟨Nat.le_refl _⟩, ⟨by repeat (first | (with_reducible first | exact HB.out | apply zh | apply zf | apply zg) | exact HB.out)⟩⟩
 case round =>
  clear H'
  obtain ⟨x3_1, rfl, HA, HK1, HB⟩ := hrel
  cases gk with
  | zero => exact absurd HA.out (by simp [spec_l3Sorted.l0])
  | succ k1 =>
   have H := HA.out
   clear HA
   simp only [spec_l3Sorted.l0] at H
   by_cases c2 : x3_1 < (l0.length : Int)
   ·rw [if_pos c2] at H
    have c2b0 : decide (x3_1 < (l0.length : Int)) = true := decide_eq_true c2
    clear c2
    by_cases c3 : 0 ≤ x3_1
    ·rw [if_pos c3] at H
     have c3b0 : decide (0 ≤ x3_1) = true := decide_eq_true c3
     clear c3
     replace H := Option.bind_eq_some_iff.mp H
     obtain ⟨t137, A40, H⟩ := H
     try dsimp only at H
     have A4 := Aside0.mk A40
     clear A40
     by_cases c5 : t137 = true
     ·subst c5
      rw [if_pos rfl] at H
      by_cases c6 : x3_1 > 0
      ·rw [if_pos c6] at H
       have c6b0 : decide (0 < x3_1) = true := decide_eq_true c6
       clear c6
       obtain ⟨ji7, hji7⟩ : ∃ j_ : Int, (wrap64 (x3_1 - 1)) = j_ := ⟨_, rfl⟩
       replace H : (if 0 ≤ (ji7) then (if (ji7) < (l0.length : Int) then (if ((Op.bytesLess (((rd_T77 l0 (ji7)).f0).toList) (((rd_T77 l0 x3_1).f0).toList)) = true) then (spec_l3Sorted.l0 k1 l0 (wrap64 (x3_1 + 1))) else (some false)) else (none)) else (none)) = some r := by first | (rw [hji7] at H; exact H) | (simp only [hji7] at H ⊢; exact H)
       (try rw [hji7] at A4)
       have hji7w : (IntKind.i64.wrap (x3_1 - 1)) = ji7 := (zo _).trans hji7
       by_cases c8 : 0 ≤ (ji7)
       ·rw [if_pos c8] at H
        have c8b0 : decide (0 ≤ (ji7)) = true := decide_eq_true c8
        clear c8
        by_cases c9 : (ji7) < (l0.length : Int)
        ·rw [if_pos c9] at H
         have c9b0 : decide ((ji7) < (l0.length : Int)) = true := decide_eq_true c9
         clear c9
         by_cases c10 : ((Op.bytesLess (((rd_T77 l0 (ji7)).f0).toList) (((rd_T77 l0 x3_1).f0).toList)) = true)
         ·rw [if_pos c10] at H
          have c10b0 : (Op.bytesLess (((rd_T77 l0 (ji7)).f0).toList) (((rd_T77 l0 x3_1).f0).toList)) = true := c10
          clear c10
          have H' := Aside0.mk H
          clear H
          try go_wp2
          have n0_ := Aside0.mk (zg HB.out)
          clear HB
          have HB := n0_
          clear n0_
          have p136 : 0 ≤ (x3_1 : Int) := of_decide_eq_true (by with_reducible assumption)
          have q136 : x3_1 < (l0.length : Int) := of_decide_eq_true (by with_reducible assumption)
          obtain ⟨ad136, e136, hx136_0, hx136_1, hx136_2, hx136_3, hx136_4, hx136_5, hx136_6⟩ := at_T77 HR0.out x3_1 p136 q136
          have hw136_6 := hx136_6
          have hw136_5 := hx136_5
          have hw136_4 := hx136_4
          have hw136_3 := hx136_3
          have hw136_2 := hx136_2
          have hw136_1 := hx136_1
          have hw136_0 := hx136_0
          cases e136
          replace hx136_0 := zb HB.out hx136_0
          replace hx136_1 := zb HB.out hx136_1
          replace hx136_2 := zb HB.out hx136_2
          replace hx136_3 := zb HB.out hx136_3
          replace hx136_4 := zb HB.out hx136_4
          replace hx136_5 := zb HB.out hx136_5
          replace hx136_6 := zb HB.out hx136_6
          replace p136 := eq_true p136
          replace q136 := eq_true q136
          have p138 : 0 ≤ (x3_1 : Int) := of_decide_eq_true (by with_reducible assumption)
          have q138 : x3_1 < (l0.length : Int) := of_decide_eq_true (by with_reducible assumption)
          obtain ⟨ad138, e138, hx138_0, hx138_1, hx138_2, hx138_3, hx138_4, hx138_5, hx138_6⟩ := at_T77 HR0.out x3_1 p138 q138
          have hw138_6 := hx138_6
          have hw138_5 := hx138_5
          have hw138_4 := hx138_4
          have hw138_3 := hx138_3
          have hw138_2 := hx138_2
          have hw138_1 := hx138_1
          have hw138_0 := hx138_0
          obtain rfl : ad136 = ad138 := (by injection e138)
          replace hx138_0 := zb HB.out hx138_0
          replace hx138_1 := zb HB.out hx138_1
          replace hx138_2 := zb HB.out hx138_2
          replace hx138_3 := zb HB.out hx138_3
          replace hx138_4 := zb HB.out hx138_4
          replace hx138_5 := zb HB.out hx138_5
          replace hx138_6 := zb HB.out hx138_6
          replace p138 := eq_true p138
          replace q138 := eq_true q138
          have p139 : 0 ≤ ((ji7) : Int) := of_decide_eq_true (by with_reducible assumption)
          have q139 : (ji7) < (l0.length : Int) := of_decide_eq_true (by with_reducible assumption)
          obtain ⟨ad139, e139, hx139_0, hx139_1, hx139_2, hx139_3, hx139_4, hx139_5, hx139_6⟩ := at_T77 HR0.out (ji7) p139 q139
          have hw139_6 := hx139_6
          have hw139_5 := hx139_5
          have hw139_4 := hx139_4
          have hw139_3 := hx139_3
          have hw139_2 := hx139_2
          have hw139_1 := hx139_1
          have hw139_0 := hx139_0
          obtain rfl : ad136 = ad139 := (by injection e139)
          replace hx139_0 := zb HB.out hx139_0
          replace hx139_1 := zb HB.out hx139_1
          replace hx139_2 := zb HB.out hx139_2
          replace hx139_3 := zb HB.out hx139_3
          replace hx139_4 := zb HB.out hx139_4
          replace hx139_5 := zb HB.out hx139_5
          replace hx139_6 := zb HB.out hx139_6
          replace p139 := eq_true p139
          replace q139 := eq_true q139
          refine start_ (n := 24) (S := fun w' => e77r w' (ad136.add ((x3_1).toNat * 7)) (rd_T77 l0 x3_1) (e77r w' (ad136.add ((x3_1).toNat * 7)) (rd_T77 l0 x3_1) (e77 w' (ad136.add (((ji7)).toNat * 7)) (rd_T77 l0 (ji7))))) (ds := []) #[false, false, false, false, false, false, false, false, false, false, false, false, false, false, false, false, false, false, false, false, false, false, false, false] (by kernel_rfl) rfl rfl ⟨(zb HB.out hw136_0), (zb HB.out hw136_1), (zb HB.out hw136_2), (zb HB.out hw136_3), (zb HB.out hw136_4), (zb HB.out hw136_5), (zb HB.out hw136_6), (zb HB.out hw138_0), (zb HB.out hw138_1), (zb HB.out hw138_2), (zb HB.out hw138_3), (zb HB.out hw138_4), (zb HB.out hw138_5), (zb HB.out hw138_6), (zb HB.out hw139_0), (zb HB.out hw139_1), (zb HB.out hw139_2), (zb HB.out hw139_3), (zb HB.out hw139_4), (zb HB.out hw139_5), (zb HB.out hw139_6)⟩ (fun hHeld => ?_); refine with_tabW spec_l3Sorted.tab4 spec_l3Sorted.bits4 (fun HT_ HW_ => ?_)
          generalize wr.drew = w11 at HB hx136_0 hx136_1 hx136_2 hx136_3 hx136_4 hx136_5 hx136_6 hx138_0 hx138_1 hx138_2 hx138_3 hx138_4 hx138_5 hx138_6 hx139_0 hx139_1 hx139_2 hx139_3 hx139_4 hx139_5 hx139_6 hHeld ⊢
          refine pu 0 10 rfl rfl (zq HT_.out (by kernel_rfl)) (fun _ _ _ _ h => h) (by rfl) ⟨_, _, fun w' => by go_simp; rfl, by simp only [pt, ps, p0, p1, zo, zp]; rfl, ?_⟩
          refine pu 1 11 rfl rfl (zq HT_.out (by kernel_rfl)) (fun _ _ _ _ h => h) (by rfl) ⟨_, _, fun w' => by go_simp; rfl, by simp only [pt, ps, p0, p1, zo, zp]; rfl, ?_⟩
          refine pu 2 12 rfl rfl (zq HT_.out (by kernel_rfl)) (fun _ _ _ _ h => h) (by rfl) ⟨_, _, fun w' => by go_simp; rfl, by simp only [pt, ps, p0, p1, zo, zp]; rfl, ?_⟩
          refine ta 3 13 rfl rfl (take_ofW HT_.out HW_.out (by kernel_rfl)) (fun _ _ _ _ h => h) (by rfl) hHeld ⟨_, _, by rintro w' ⟨s0, s1, s2, s3, s4, s5, s6, s7, s8, s9, s10, s11, s12, s13, s14, s15, s16, s17, s18, s19, s20⟩; go_simp; rfl, by simp only [pt, ps, p0, p1, zo, zp]; rfl, ?_⟩
          refine one_ (i := 4) (N := some 14) #[true, true, true, true, true, false, false, false, false, false, false, false, false, false, false, false, false, false, false, false, false, false, false, false] rfl rfl (one_of HT_.out (by kernel_rfl)) (by decide) (fun K hK => ?_)
          refine goes_ Tryd.func90 (by kernel_rfl) rfl #[.agg #[.string ((rd_T77 l0 x3_1).f0), .string ((rd_T77 l0 x3_1).f1), .int .i64 ((rd_T77 l0 x3_1).f2), .int .i64 ((rd_T77 l0 x3_1).f3), .int .i64 ((rd_T77 l0 x3_1).f4), .int .i64 ((rd_T77 l0 x3_1).f5), .int .i64 ((rd_T77 l0 x3_1).f6)]] (by rfl) rfl rfl (by (try simp only [List.map_toArray, List.map_cons, List.map_nil]); first | done | rfl) ?_
          with_reducible refine (spec_l3ValidNode.calls k1 ((rd_T77 l0 x3_1).f0) ((rd_T77 l0 x3_1).f1) ((rd_T77 l0 x3_1).f2) ((rd_T77 l0 x3_1).f3) ((rd_T77 l0 x3_1).f4) ((rd_T77 l0 x3_1).f5) ((rd_T77 l0 x3_1).f6) true _ A4.out).mono ?_
          rintro e w12 ⟨rfl, hb⟩
          refine ⟨_, rfl, ?_⟩
          have n0_ := Aside0.mk (zn (by repeat (first | (with_reducible first | exact HB.out | apply zh | apply zf | apply zg) | exact HB.out)) hb)
          clear HB
          have HB := n0_
          clear n0_
          (try clear hb)
          (try clear hb2)
          (try clear hk)
          (try clear hi)
          refine hK.out _ _ ⟨(zb HB.out hw136_0), (zb HB.out hw136_1), (zb HB.out hw136_2), (zb HB.out hw136_3), (zb HB.out hw136_4), (zb HB.out hw136_5), (zb HB.out hw136_6), (zb HB.out hw138_0), (zb HB.out hw138_1), (zb HB.out hw138_2), (zb HB.out hw138_3), (zb HB.out hw138_4), (zb HB.out hw138_5), (zb HB.out hw138_6), (zb HB.out hw139_0), (zb HB.out hw139_1), (zb HB.out hw139_2), (zb HB.out hw139_3), (zb HB.out hw139_4), (zb HB.out hw139_5), (zb HB.out hw139_6)⟩ (fun hHeld => ?_)
          clear hK K
          refine norm_ (a' := ?_) ?_ ?_
          rotate_left
          ·show Act.put _ (some 14) _ = _
           simp only [pt, ps, p0, p1, zo, zp]
           rfl
          refine pu 5 15 rfl rfl (zq HT_.out (by kernel_rfl)) (fun _ _ _ _ h => h) (by rfl) ⟨_, _, fun w' => by go_simp; rfl, by simp only [pt, ps, p0, p1, zo, zp]; rfl, ?_⟩
          refine pu 6 16 rfl rfl (zq HT_.out (by kernel_rfl)) (fun _ _ _ _ h => h) (by rfl) ⟨_, _, fun w' => by go_simp; rfl, by simp only [pt, ps, p0, p1, zo, zp]; rfl, ?_⟩
          refine pu 7 17 rfl rfl (zq HT_.out (by kernel_rfl)) (fun _ _ _ _ h => h) (by rfl) ⟨_, _, fun w' => by go_simp; rfl, by simp only [pt, ps, p0, p1, zo, zp]; rfl, ?_⟩
          refine pu 8 18 rfl rfl (zq HT_.out (by kernel_rfl)) (fun _ _ _ _ h => h) (by rfl) ⟨_, _, fun w' => by go_simp; rfl, by simp only [pt, ps, p0, p1, zo, zp]; rfl, ?_⟩
          refine pu 9 19 rfl rfl (zq HT_.out (by kernel_rfl)) (fun _ _ _ _ h => h) (by rfl) ⟨_, _, fun w' => by go_simp; rfl, by simp only [pt, ps, p0, p1, zo, zp]; rfl, ?_⟩
          refine pu 10 20 rfl rfl (zq HT_.out (by kernel_rfl)) (fun _ _ _ _ h => h) (by rfl) ⟨_, _, fun w' => by go_simp; rfl, by simp only [pt, ps, p0, p1, zo, zp]; rfl, ?_⟩
          refine pu 11 21 rfl rfl (zq HT_.out (by kernel_rfl)) (fun _ _ _ _ h => h) (by rfl) ⟨_, _, fun w' => by go_simp; rfl, by simp only [pt, ps, p0, p1, zo, zp]; rfl, ?_⟩
          refine pu 12 22 rfl rfl (zq HT_.out (by kernel_rfl)) (fun _ _ _ _ h => h) (by rfl) ⟨_, _, fun w' => by go_simp; rfl, by simp only [pt, ps, p0, p1, zo, zp]; rfl, ?_⟩
          refine pu 13 23 rfl rfl (zq HT_.out (by kernel_rfl)) (fun _ _ _ _ h => h) (by rfl) ⟨_, _, fun w' => by go_simp; rfl, by simp only [pt, ps, p0, p1, zo, zp]; rfl, ?_⟩
          refine pu 15 25 rfl rfl (zq HT_.out (by kernel_rfl)) (fun _ _ _ _ h => h) (by rfl) ⟨_, _, fun w' => by go_simp; rfl, by simp only [pt, ps, p0, p1, zo, zp]; rfl, ?_⟩
          refine pu 16 26 rfl rfl (zq HT_.out (by kernel_rfl)) (fun _ _ _ _ h => h) (by rfl) ⟨_, _, fun w' => by go_simp; rfl, by simp only [pt, ps, p0, p1, zo, zp]; rfl, ?_⟩
          refine pu 17 27 rfl rfl (zq HT_.out (by kernel_rfl)) (fun _ _ _ _ h => h) (by rfl) ⟨_, _, fun w' => by go_simp; rfl, by simp only [pt, ps, p0, p1, zo, zp]; rfl, ?_⟩
          refine pu 18 28 rfl rfl (zq HT_.out (by kernel_rfl)) (fun _ _ _ _ h => h) (by rfl) ⟨_, _, fun w' => by go_simp; rfl, by simp only [pt, ps, p0, p1, zo, zp]; rfl, ?_⟩
          refine pu 19 29 rfl rfl (zq HT_.out (by kernel_rfl)) (fun _ _ _ _ h => h) (by rfl) ⟨_, _, fun w' => by go_simp; rfl, by simp only [pt, ps, p0, p1, zo, zp]; rfl, ?_⟩
          refine ta 14 24 rfl rfl (take_ofW HT_.out HW_.out (by kernel_rfl)) (fun _ _ _ _ h => h) (by rfl) hHeld ⟨_, _, by rintro w' ⟨s0, s1, s2, s3, s4, s5, s6, s7, s8, s9, s10, s11, s12, s13, s14, s15, s16, s17, s18, s19, s20⟩; go_simp; rfl, by simp only [pt, ps, p0, p1, zo, zp]; rfl, ?_⟩
          refine ta 20 30 rfl rfl (take_ofW HT_.out HW_.out (by kernel_rfl)) (fun _ _ _ _ h => h) (by rfl) hHeld ⟨_, _, by rintro w' ⟨s0, s1, s2, s3, s4, s5, s6, s7, s8, s9, s10, s11, s12, s13, s14, s15, s16, s17, s18, s19, s20⟩; go_simp; rfl, by simp only [pt, ps, p0, p1, zo, zp]; rfl, ?_⟩
          refine pu 21 31 rfl rfl (zq HT_.out (by kernel_rfl)) (fun _ _ _ _ h => h) (by rfl) ⟨_, _, fun w' => by go_simp; rfl, by simp only [pt, ps, p0, p1, zo, zp]; rfl, ?_⟩
          refine pu 22 32 rfl rfl (zq HT_.out (by kernel_rfl)) (fun _ _ _ _ h => h) (by rfl) ⟨_, _, fun w' => by go_simp; rfl, by simp only [pt, ps, p0, p1, zo, zp]; rfl, ?_⟩
          refine pu 23 33 rfl rfl (zq HT_.out (by kernel_rfl)) (fun _ _ _ _ h => h) (by rfl) ⟨_, _, fun w' => by go_simp; rfl, by simp only [pt, ps, p0, p1, zo, zp]; rfl, ?_⟩
          refine done_ (done_of HT_.out (by kernel_rfl)) ?_
          try go_wp2
          go_roundg k1
          case measure => have := HK1.out; omega
          case rel => exact ⟨(wrap64 (x3_1 + 1)), (by first | rfl | (simp [*]; done)), H', ⟨by have := HK1.out; omega⟩, ⟨by repeat (first | (with_reducible first | exact HB.out | apply zh | apply zf | apply zg) | exact HB.out)⟩⟩
         ·rw [if_neg c10] at H
          have c10b0 : (Op.bytesLess (((rd_T77 l0 (ji7)).f0).toList) (((rd_T77 l0 x3_1).f0).toList)) = false := by simpa using c10
          clear c10
          obtain rfl := Option.some.inj H
          try go_wp2
          have n0_ := Aside0.mk (zg HB.out)
          clear HB
          have HB := n0_
          clear n0_
          have p136 : 0 ≤ (x3_1 : Int) := of_decide_eq_true (by with_reducible assumption)
          have q136 : x3_1 < (l0.length : Int) := of_decide_eq_true (by with_reducible assumption)
          obtain ⟨ad136, e136, hx136_0, hx136_1, hx136_2, hx136_3, hx136_4, hx136_5, hx136_6⟩ := at_T77 HR0.out x3_1 p136 q136
          have hw136_6 := hx136_6
          have hw136_5 := hx136_5
          have hw136_4 := hx136_4
          have hw136_3 := hx136_3
          have hw136_2 := hx136_2
          have hw136_1 := hx136_1
          have hw136_0 := hx136_0
          cases e136
          replace hx136_0 := zb HB.out hx136_0
          replace hx136_1 := zb HB.out hx136_1
          replace hx136_2 := zb HB.out hx136_2
          replace hx136_3 := zb HB.out hx136_3
          replace hx136_4 := zb HB.out hx136_4
          replace hx136_5 := zb HB.out hx136_5
          replace hx136_6 := zb HB.out hx136_6
          replace p136 := eq_true p136
          replace q136 := eq_true q136
          have p138 : 0 ≤ (x3_1 : Int) := of_decide_eq_true (by with_reducible assumption)
          have q138 : x3_1 < (l0.length : Int) := of_decide_eq_true (by with_reducible assumption)
          obtain ⟨ad138, e138, hx138_0, hx138_1, hx138_2, hx138_3, hx138_4, hx138_5, hx138_6⟩ := at_T77 HR0.out x3_1 p138 q138
          have hw138_6 := hx138_6
          have hw138_5 := hx138_5
          have hw138_4 := hx138_4
          have hw138_3 := hx138_3
          have hw138_2 := hx138_2
          have hw138_1 := hx138_1
          have hw138_0 := hx138_0
          obtain rfl : ad136 = ad138 := (by injection e138)
          replace hx138_0 := zb HB.out hx138_0
          replace hx138_1 := zb HB.out hx138_1
          replace hx138_2 := zb HB.out hx138_2
          replace hx138_3 := zb HB.out hx138_3
          replace hx138_4 := zb HB.out hx138_4
          replace hx138_5 := zb HB.out hx138_5
          replace hx138_6 := zb HB.out hx138_6
          replace p138 := eq_true p138
          replace q138 := eq_true q138
          have p139 : 0 ≤ ((ji7) : Int) := of_decide_eq_true (by with_reducible assumption)
          have q139 : (ji7) < (l0.length : Int) := of_decide_eq_true (by with_reducible assumption)
          obtain ⟨ad139, e139, hx139_0, hx139_1, hx139_2, hx139_3, hx139_4, hx139_5, hx139_6⟩ := at_T77 HR0.out (ji7) p139 q139
          have hw139_6 := hx139_6
          have hw139_5 := hx139_5
          have hw139_4 := hx139_4
          have hw139_3 := hx139_3
          have hw139_2 := hx139_2
          have hw139_1 := hx139_1
          have hw139_0 := hx139_0
          obtain rfl : ad136 = ad139 := (by injection e139)
          replace hx139_0 := zb HB.out hx139_0
          replace hx139_1 := zb HB.out hx139_1
          replace hx139_2 := zb HB.out hx139_2
          replace hx139_3 := zb HB.out hx139_3
          replace hx139_4 := zb HB.out hx139_4
          replace hx139_5 := zb HB.out hx139_5
          replace hx139_6 := zb HB.out hx139_6
          replace p139 := eq_true p139
          replace q139 := eq_true q139
          refine start_ (n := 24) (S := fun w' => e77r w' (ad136.add ((x3_1).toNat * 7)) (rd_T77 l0 x3_1) (e77r w' (ad136.add ((x3_1).toNat * 7)) (rd_T77 l0 x3_1) (e77 w' (ad136.add (((ji7)).toNat * 7)) (rd_T77 l0 (ji7))))) (ds := []) #[false, false, false, false, false, false, false, false, false, false, false, false, false, false, false, false, false, false, false, false, false, false, false, false] (by kernel_rfl) rfl rfl ⟨(zb HB.out hw136_0), (zb HB.out hw136_1), (zb HB.out hw136_2), (zb HB.out hw136_3), (zb HB.out hw136_4), (zb HB.out hw136_5), (zb HB.out hw136_6), (zb HB.out hw138_0), (zb HB.out hw138_1), (zb HB.out hw138_2), (zb HB.out hw138_3), (zb HB.out hw138_4), (zb HB.out hw138_5), (zb HB.out hw138_6), (zb HB.out hw139_0), (zb HB.out hw139_1), (zb HB.out hw139_2), (zb HB.out hw139_3), (zb HB.out hw139_4), (zb HB.out hw139_5), (zb HB.out hw139_6)⟩ (fun hHeld => ?_); refine with_tabW spec_l3Sorted.tab4 spec_l3Sorted.bits4 (fun HT_ HW_ => ?_)
          generalize wr.drew = w13 at HB hx136_0 hx136_1 hx136_2 hx136_3 hx136_4 hx136_5 hx136_6 hx138_0 hx138_1 hx138_2 hx138_3 hx138_4 hx138_5 hx138_6 hx139_0 hx139_1 hx139_2 hx139_3 hx139_4 hx139_5 hx139_6 hHeld ⊢
          refine pu 0 10 rfl rfl (zq HT_.out (by kernel_rfl)) (fun _ _ _ _ h => h) (by rfl) ⟨_, _, fun w' => by go_simp; rfl, by simp only [pt, ps, p0, p1, zo, zp]; rfl, ?_⟩
          refine pu 1 11 rfl rfl (zq HT_.out (by kernel_rfl)) (fun _ _ _ _ h => h) (by rfl) ⟨_, _, fun w' => by go_simp; rfl, by simp only [pt, ps, p0, p1, zo, zp]; rfl, ?_⟩
          refine pu 2 12 rfl rfl (zq HT_.out (by kernel_rfl)) (fun _ _ _ _ h => h) (by rfl) ⟨_, _, fun w' => by go_simp; rfl, by simp only [pt, ps, p0, p1, zo, zp]; rfl, ?_⟩
          refine ta 3 13 rfl rfl (take_ofW HT_.out HW_.out (by kernel_rfl)) (fun _ _ _ _ h => h) (by rfl) hHeld ⟨_, _, by rintro w' ⟨s0, s1, s2, s3, s4, s5, s6, s7, s8, s9, s10, s11, s12, s13, s14, s15, s16, s17, s18, s19, s20⟩; go_simp; rfl, by simp only [pt, ps, p0, p1, zo, zp]; rfl, ?_⟩
          refine one_ (i := 4) (N := some 14) #[true, true, true, true, true, false, false, false, false, false, false, false, false, false, false, false, false, false, false, false, false, false, false, false] rfl rfl (one_of HT_.out (by kernel_rfl)) (by decide) (fun K hK => ?_)
          refine goes_ Tryd.func90 (by kernel_rfl) rfl #[.agg #[.string ((rd_T77 l0 x3_1).f0), .string ((rd_T77 l0 x3_1).f1), .int .i64 ((rd_T77 l0 x3_1).f2), .int .i64 ((rd_T77 l0 x3_1).f3), .int .i64 ((rd_T77 l0 x3_1).f4), .int .i64 ((rd_T77 l0 x3_1).f5), .int .i64 ((rd_T77 l0 x3_1).f6)]] (by rfl) rfl rfl (by (try simp only [List.map_toArray, List.map_cons, List.map_nil]); first | done | rfl) ?_
          with_reducible refine (spec_l3ValidNode.calls k1 ((rd_T77 l0 x3_1).f0) ((rd_T77 l0 x3_1).f1) ((rd_T77 l0 x3_1).f2) ((rd_T77 l0 x3_1).f3) ((rd_T77 l0 x3_1).f4) ((rd_T77 l0 x3_1).f5) ((rd_T77 l0 x3_1).f6) true _ A4.out).mono ?_
          rintro e w14 ⟨rfl, hb⟩
          refine ⟨_, rfl, ?_⟩
          have n0_ := Aside0.mk (zn (by repeat (first | (with_reducible first | exact HB.out | apply zh | apply zf | apply zg) | exact HB.out)) hb)
          clear HB
          have HB := n0_
          clear n0_
          (try clear hb)
          (try clear hb2)
          (try clear hk)
          (try clear hi)
          refine hK.out _ _ ⟨(zb HB.out hw136_0), (zb HB.out hw136_1), (zb HB.out hw136_2), (zb HB.out hw136_3), (zb HB.out hw136_4), (zb HB.out hw136_5), (zb HB.out hw136_6), (zb HB.out hw138_0), (zb HB.out hw138_1), (zb HB.out hw138_2), (zb HB.out hw138_3), (zb HB.out hw138_4), (zb HB.out hw138_5), (zb HB.out hw138_6), (zb HB.out hw139_0), (zb HB.out hw139_1), (zb HB.out hw139_2), (zb HB.out hw139_3), (zb HB.out hw139_4), (zb HB.out hw139_5), (zb HB.out hw139_6)⟩ (fun hHeld => ?_)
          clear hK K
          refine norm_ (a' := ?_) ?_ ?_
          rotate_left
          ·show Act.put _ (some 14) _ = _
           simp only [pt, ps, p0, p1, zo, zp]
           rfl
          refine pu 5 15 rfl rfl (zq HT_.out (by kernel_rfl)) (fun _ _ _ _ h => h) (by rfl) ⟨_, _, fun w' => by go_simp; rfl, by simp only [pt, ps, p0, p1, zo, zp]; rfl, ?_⟩
          refine pu 6 16 rfl rfl (zq HT_.out (by kernel_rfl)) (fun _ _ _ _ h => h) (by rfl) ⟨_, _, fun w' => by go_simp; rfl, by simp only [pt, ps, p0, p1, zo, zp]; rfl, ?_⟩
          refine pu 7 17 rfl rfl (zq HT_.out (by kernel_rfl)) (fun _ _ _ _ h => h) (by rfl) ⟨_, _, fun w' => by go_simp; rfl, by simp only [pt, ps, p0, p1, zo, zp]; rfl, ?_⟩
          refine pu 8 18 rfl rfl (zq HT_.out (by kernel_rfl)) (fun _ _ _ _ h => h) (by rfl) ⟨_, _, fun w' => by go_simp; rfl, by simp only [pt, ps, p0, p1, zo, zp]; rfl, ?_⟩
          refine pu 9 19 rfl rfl (zq HT_.out (by kernel_rfl)) (fun _ _ _ _ h => h) (by rfl) ⟨_, _, fun w' => by go_simp; rfl, by simp only [pt, ps, p0, p1, zo, zp]; rfl, ?_⟩
          refine pu 10 20 rfl rfl (zq HT_.out (by kernel_rfl)) (fun _ _ _ _ h => h) (by rfl) ⟨_, _, fun w' => by go_simp; rfl, by simp only [pt, ps, p0, p1, zo, zp]; rfl, ?_⟩
          refine pu 11 21 rfl rfl (zq HT_.out (by kernel_rfl)) (fun _ _ _ _ h => h) (by rfl) ⟨_, _, fun w' => by go_simp; rfl, by simp only [pt, ps, p0, p1, zo, zp]; rfl, ?_⟩
          refine pu 12 22 rfl rfl (zq HT_.out (by kernel_rfl)) (fun _ _ _ _ h => h) (by rfl) ⟨_, _, fun w' => by go_simp; rfl, by simp only [pt, ps, p0, p1, zo, zp]; rfl, ?_⟩
          refine pu 13 23 rfl rfl (zq HT_.out (by kernel_rfl)) (fun _ _ _ _ h => h) (by rfl) ⟨_, _, fun w' => by go_simp; rfl, by simp only [pt, ps, p0, p1, zo, zp]; rfl, ?_⟩
          refine pu 15 25 rfl rfl (zq HT_.out (by kernel_rfl)) (fun _ _ _ _ h => h) (by rfl) ⟨_, _, fun w' => by go_simp; rfl, by simp only [pt, ps, p0, p1, zo, zp]; rfl, ?_⟩
          refine pu 16 26 rfl rfl (zq HT_.out (by kernel_rfl)) (fun _ _ _ _ h => h) (by rfl) ⟨_, _, fun w' => by go_simp; rfl, by simp only [pt, ps, p0, p1, zo, zp]; rfl, ?_⟩
          refine pu 17 27 rfl rfl (zq HT_.out (by kernel_rfl)) (fun _ _ _ _ h => h) (by rfl) ⟨_, _, fun w' => by go_simp; rfl, by simp only [pt, ps, p0, p1, zo, zp]; rfl, ?_⟩
          refine pu 18 28 rfl rfl (zq HT_.out (by kernel_rfl)) (fun _ _ _ _ h => h) (by rfl) ⟨_, _, fun w' => by go_simp; rfl, by simp only [pt, ps, p0, p1, zo, zp]; rfl, ?_⟩
          refine pu 19 29 rfl rfl (zq HT_.out (by kernel_rfl)) (fun _ _ _ _ h => h) (by rfl) ⟨_, _, fun w' => by go_simp; rfl, by simp only [pt, ps, p0, p1, zo, zp]; rfl, ?_⟩
          refine ta 14 24 rfl rfl (take_ofW HT_.out HW_.out (by kernel_rfl)) (fun _ _ _ _ h => h) (by rfl) hHeld ⟨_, _, by rintro w' ⟨s0, s1, s2, s3, s4, s5, s6, s7, s8, s9, s10, s11, s12, s13, s14, s15, s16, s17, s18, s19, s20⟩; go_simp; rfl, by simp only [pt, ps, p0, p1, zo, zp]; rfl, ?_⟩
          refine ta 20 30 rfl rfl (take_ofW HT_.out HW_.out (by kernel_rfl)) (fun _ _ _ _ h => h) (by rfl) hHeld ⟨_, _, by rintro w' ⟨s0, s1, s2, s3, s4, s5, s6, s7, s8, s9, s10, s11, s12, s13, s14, s15, s16, s17, s18, s19, s20⟩; go_simp; rfl, by simp only [pt, ps, p0, p1, zo, zp]; rfl, ?_⟩
          refine pu 21 31 rfl rfl (zq HT_.out (by kernel_rfl)) (fun _ _ _ _ h => h) (by rfl) ⟨_, _, fun w' => by go_simp; rfl, by simp only [pt, ps, p0, p1, zo, zp]; rfl, ?_⟩
          refine pu 22 32 rfl rfl (zq HT_.out (by kernel_rfl)) (fun _ _ _ _ h => h) (by rfl) ⟨_, _, fun w' => by go_simp; rfl, by simp only [pt, ps, p0, p1, zo, zp]; rfl, ?_⟩
          refine pu 23 33 rfl rfl (zq HT_.out (by kernel_rfl)) (fun _ _ _ _ h => h) (by rfl) ⟨_, _, fun w' => by go_simp; rfl, by simp only [pt, ps, p0, p1, zo, zp]; rfl, ?_⟩
          refine done_ (done_of HT_.out (by kernel_rfl)) ?_
          try go_wp2
          go_ret
          exact ⟨by first | rfl | (simp [errW_none, errW_some] <;> rfl) | (simp only [← hji7]; first | rfl | (simp [errW_none, errW_some] <;> rfl)) | (simp [*, errW_none, errW_some] <;> rfl), by repeat (first | (with_reducible first | exact HB.out | apply zh | apply zf | apply zg) | exact HB.out)⟩
        ·rw [if_neg c9] at H
         exact absurd H (by simp)
       ·rw [if_neg c8] at H
        exact absurd H (by simp)
      ·rw [if_neg c6] at H
       have c6b0 : decide (0 < x3_1) = false := decide_eq_false c6
       clear c6
       have H' := Aside0.mk H
       clear H
       try go_wp2
       have n0_ := Aside0.mk (zg HB.out)
       clear HB
       have HB := n0_
       clear n0_
       have p136 : 0 ≤ (x3_1 : Int) := of_decide_eq_true (by with_reducible assumption)
       have q136 : x3_1 < (l0.length : Int) := of_decide_eq_true (by with_reducible assumption)
       obtain ⟨ad136, e136, hx136_0, hx136_1, hx136_2, hx136_3, hx136_4, hx136_5, hx136_6⟩ := at_T77 HR0.out x3_1 p136 q136
       have hw136_6 := hx136_6
       have hw136_5 := hx136_5
       have hw136_4 := hx136_4
       have hw136_3 := hx136_3
       have hw136_2 := hx136_2
       have hw136_1 := hx136_1
       have hw136_0 := hx136_0
       cases e136
       replace hx136_0 := zb HB.out hx136_0
       replace hx136_1 := zb HB.out hx136_1
       replace hx136_2 := zb HB.out hx136_2
       replace hx136_3 := zb HB.out hx136_3
       replace hx136_4 := zb HB.out hx136_4
       replace hx136_5 := zb HB.out hx136_5
       replace hx136_6 := zb HB.out hx136_6
       replace p136 := eq_true p136
       replace q136 := eq_true q136
       refine start_ (n := 24) (S := fun w' => e77 w' (ad136.add ((x3_1).toNat * 7)) (rd_T77 l0 x3_1)) (ds := []) #[false, false, false, false, false, false, false, false, false, false, false, false, false, false, false, false, false, false, false, false, false, false, false, false] (by kernel_rfl) rfl rfl ⟨(zb HB.out hw136_0), (zb HB.out hw136_1), (zb HB.out hw136_2), (zb HB.out hw136_3), (zb HB.out hw136_4), (zb HB.out hw136_5), (zb HB.out hw136_6)⟩ (fun hHeld => ?_); refine with_tabW spec_l3Sorted.tab4 spec_l3Sorted.bits4 (fun HT_ HW_ => ?_)
       generalize wr.drew = w15 at HB hx136_0 hx136_1 hx136_2 hx136_3 hx136_4 hx136_5 hx136_6 hHeld ⊢
       refine pu 0 10 rfl rfl (zq HT_.out (by kernel_rfl)) (fun _ _ _ _ h => h) (by rfl) ⟨_, _, fun w' => by go_simp; rfl, by simp only [pt, ps, p0, p1, zo, zp]; rfl, ?_⟩
       refine pu 1 11 rfl rfl (zq HT_.out (by kernel_rfl)) (fun _ _ _ _ h => h) (by rfl) ⟨_, _, fun w' => by go_simp; rfl, by simp only [pt, ps, p0, p1, zo, zp]; rfl, ?_⟩
       refine pu 2 12 rfl rfl (zq HT_.out (by kernel_rfl)) (fun _ _ _ _ h => h) (by rfl) ⟨_, _, fun w' => by go_simp; rfl, by simp only [pt, ps, p0, p1, zo, zp]; rfl, ?_⟩
       refine ta 3 13 rfl rfl (take_ofW HT_.out HW_.out (by kernel_rfl)) (fun _ _ _ _ h => h) (by rfl) hHeld ⟨_, _, by rintro w' ⟨s0, s1, s2, s3, s4, s5, s6⟩; go_simp; rfl, by simp only [pt, ps, p0, p1, zo, zp]; rfl, ?_⟩
       refine one_ (i := 4) (N := some 14) #[true, true, true, true, true, false, false, false, false, false, false, false, false, false, false, false, false, false, false, false, false, false, false, false] rfl rfl (one_of HT_.out (by kernel_rfl)) (by decide) (fun K hK => ?_)
       refine goes_ Tryd.func90 (by kernel_rfl) rfl #[.agg #[.string ((rd_T77 l0 x3_1).f0), .string ((rd_T77 l0 x3_1).f1), .int .i64 ((rd_T77 l0 x3_1).f2), .int .i64 ((rd_T77 l0 x3_1).f3), .int .i64 ((rd_T77 l0 x3_1).f4), .int .i64 ((rd_T77 l0 x3_1).f5), .int .i64 ((rd_T77 l0 x3_1).f6)]] (by rfl) rfl rfl (by (try simp only [List.map_toArray, List.map_cons, List.map_nil]); first | done | rfl) ?_
       with_reducible refine (spec_l3ValidNode.calls k1 ((rd_T77 l0 x3_1).f0) ((rd_T77 l0 x3_1).f1) ((rd_T77 l0 x3_1).f2) ((rd_T77 l0 x3_1).f3) ((rd_T77 l0 x3_1).f4) ((rd_T77 l0 x3_1).f5) ((rd_T77 l0 x3_1).f6) true _ A4.out).mono ?_
       rintro e w16 ⟨rfl, hb⟩
       refine ⟨_, rfl, ?_⟩
       have n0_ := Aside0.mk (zn (by repeat (first | (with_reducible first | exact HB.out | apply zh | apply zf | apply zg) | exact HB.out)) hb)
       clear HB
       have HB := n0_
       clear n0_
       (try clear hb)
       (try clear hb2)
       (try clear hk)
       (try clear hi)
       refine hK.out _ _ ⟨(zb HB.out hw136_0), (zb HB.out hw136_1), (zb HB.out hw136_2), (zb HB.out hw136_3), (zb HB.out hw136_4), (zb HB.out hw136_5), (zb HB.out hw136_6)⟩ (fun hHeld => ?_)
       clear hK K
       refine norm_ (a' := ?_) ?_ ?_
       rotate_left
       ·show Act.put _ (some 14) _ = _
        simp only [pt, ps, p0, p1, zo, zp]
        rfl
       refine pu 5 15 rfl rfl (zq HT_.out (by kernel_rfl)) (fun _ _ _ _ h => h) (by rfl) ⟨_, _, fun w' => by go_simp; rfl, by simp only [pt, ps, p0, p1, zo, zp]; rfl, ?_⟩
       refine pu 6 16 rfl rfl (zq HT_.out (by kernel_rfl)) (fun _ _ _ _ h => h) (by rfl) ⟨_, _, fun w' => by go_simp; rfl, by simp only [pt, ps, p0, p1, zo, zp]; rfl, ?_⟩
       refine pu 7 17 rfl rfl (zq HT_.out (by kernel_rfl)) (fun _ _ _ _ h => h) (by rfl) ⟨_, _, fun w' => by go_simp; rfl, by simp only [pt, ps, p0, p1, zo, zp]; rfl, ?_⟩
       refine pu 8 18 rfl rfl (zq HT_.out (by kernel_rfl)) (fun _ _ _ _ h => h) (by rfl) ⟨_, _, fun w' => by go_simp; rfl, by simp only [pt, ps, p0, p1, zo, zp]; rfl, ?_⟩
       refine pu 9 19 rfl rfl (zq HT_.out (by kernel_rfl)) (fun _ _ _ _ h => h) (by rfl) ⟨_, _, fun w' => by go_simp; rfl, by simp only [pt, ps, p0, p1, zo, zp]; rfl, ?_⟩
       refine po 10 20 rfl rfl (zq HT_.out (by kernel_rfl)) (fun _ _ _ _ h => h) (by rfl) ⟨_, by simp only [pt, ps, p0, p1, zo, zp]; rfl, ?_⟩
       refine po 11 21 rfl rfl (zq HT_.out (by kernel_rfl)) (fun _ _ _ _ h => h) (by rfl) ⟨_, by simp only [pt, ps, p0, p1, zo, zp]; rfl, ?_⟩
       refine po 12 22 rfl rfl (zq HT_.out (by kernel_rfl)) (fun _ _ _ _ h => h) (by rfl) ⟨_, by simp only [pt, ps, p0, p1, zo, zp]; rfl, ?_⟩
       refine po 13 23 rfl rfl (zq HT_.out (by kernel_rfl)) (fun _ _ _ _ h => h) (by rfl) ⟨_, by simp only [pt, ps, p0, p1, zo, zp]; rfl, ?_⟩
       refine po 14 24 rfl rfl (zq HT_.out (by kernel_rfl)) (fun _ _ _ _ h => h) (by rfl) ⟨_, by simp only [pt, ps, p0, p1, zo, zp]; rfl, ?_⟩
       refine po 15 25 rfl rfl (zq HT_.out (by kernel_rfl)) (fun _ _ _ _ h => h) (by rfl) ⟨_, by simp only [pt, ps, p0, p1, zo, zp]; rfl, ?_⟩
       refine po 16 26 rfl rfl (zq HT_.out (by kernel_rfl)) (fun _ _ _ _ h => h) (by rfl) ⟨_, by simp only [pt, ps, p0, p1, zo, zp]; rfl, ?_⟩
       refine po 17 27 rfl rfl (zq HT_.out (by kernel_rfl)) (fun _ _ _ _ h => h) (by rfl) ⟨_, by simp only [pt, ps, p0, p1, zo, zp]; rfl, ?_⟩
       refine po 18 28 rfl rfl (zq HT_.out (by kernel_rfl)) (fun _ _ _ _ h => h) (by rfl) ⟨_, by simp only [pt, ps, p0, p1, zo, zp]; rfl, ?_⟩
       refine po 19 29 rfl rfl (zq HT_.out (by kernel_rfl)) (fun _ _ _ _ h => h) (by rfl) ⟨_, by simp only [pt, ps, p0, p1, zo, zp]; rfl, ?_⟩
       refine po 20 30 rfl rfl (zq HT_.out (by kernel_rfl)) (fun _ _ _ _ h => h) (by rfl) ⟨_, by simp only [pt, ps, p0, p1, zo, zp]; rfl, ?_⟩
       refine po 21 31 rfl rfl (zq HT_.out (by kernel_rfl)) (fun _ _ _ _ h => h) (by rfl) ⟨_, by simp only [pt, ps, p0, p1, zo, zp]; rfl, ?_⟩
       refine pu 22 32 rfl rfl (zq HT_.out (by kernel_rfl)) (fun _ _ _ _ h => h) (by rfl) ⟨_, _, fun w' => by go_simp; rfl, by simp only [pt, ps, p0, p1, zo, zp]; rfl, ?_⟩
       refine pu 23 33 rfl rfl (zq HT_.out (by kernel_rfl)) (fun _ _ _ _ h => h) (by rfl) ⟨_, _, fun w' => by go_simp; rfl, by simp only [pt, ps, p0, p1, zo, zp]; rfl, ?_⟩
       refine done_ (done_of HT_.out (by kernel_rfl)) ?_
       try go_wp2
       go_roundg k1
       case measure => have := HK1.out; omega
       case rel => exact ⟨(wrap64 (x3_1 + 1)), (by first | rfl | (simp [*]; done)), H', ⟨by have := HK1.out; omega⟩, ⟨by repeat (first | (with_reducible first | exact HB.out | apply zh | apply zf | apply zg) | exact HB.out)⟩⟩
     ·replace c5 := Bool.eq_false_iff.mpr c5
      subst c5
      rw [if_neg (show ¬ (false = true) by decide)] at H
      obtain rfl := Option.some.inj H
      try go_wp2
      have n0_ := Aside0.mk (zg HB.out)
      clear HB
      have HB := n0_
      clear n0_
      have p136 : 0 ≤ (x3_1 : Int) := of_decide_eq_true (by with_reducible assumption)
      have q136 : x3_1 < (l0.length : Int) := of_decide_eq_true (by with_reducible assumption)
      obtain ⟨ad136, e136, hx136_0, hx136_1, hx136_2, hx136_3, hx136_4, hx136_5, hx136_6⟩ := at_T77 HR0.out x3_1 p136 q136
      have hw136_6 := hx136_6
      have hw136_5 := hx136_5
      have hw136_4 := hx136_4
      have hw136_3 := hx136_3
      have hw136_2 := hx136_2
      have hw136_1 := hx136_1
      have hw136_0 := hx136_0
      cases e136
      replace hx136_0 := zb HB.out hx136_0
      replace hx136_1 := zb HB.out hx136_1
      replace hx136_2 := zb HB.out hx136_2
      replace hx136_3 := zb HB.out hx136_3
      replace hx136_4 := zb HB.out hx136_4
      replace hx136_5 := zb HB.out hx136_5
      replace hx136_6 := zb HB.out hx136_6
      replace p136 := eq_true p136
      replace q136 := eq_true q136
      refine start_ (n := 24) (S := fun w' => e77 w' (ad136.add ((x3_1).toNat * 7)) (rd_T77 l0 x3_1)) (ds := []) #[false, false, false, false, false, false, false, false, false, false, false, false, false, false, false, false, false, false, false, false, false, false, false, false] (by kernel_rfl) rfl rfl ⟨(zb HB.out hw136_0), (zb HB.out hw136_1), (zb HB.out hw136_2), (zb HB.out hw136_3), (zb HB.out hw136_4), (zb HB.out hw136_5), (zb HB.out hw136_6)⟩ (fun hHeld => ?_); refine with_tabW spec_l3Sorted.tab4 spec_l3Sorted.bits4 (fun HT_ HW_ => ?_)
      generalize wr.drew = w17 at HB hx136_0 hx136_1 hx136_2 hx136_3 hx136_4 hx136_5 hx136_6 hHeld ⊢
      refine pu 0 10 rfl rfl (zq HT_.out (by kernel_rfl)) (fun _ _ _ _ h => h) (by rfl) ⟨_, _, fun w' => by go_simp; rfl, by simp only [pt, ps, p0, p1, zo, zp]; rfl, ?_⟩
      refine pu 1 11 rfl rfl (zq HT_.out (by kernel_rfl)) (fun _ _ _ _ h => h) (by rfl) ⟨_, _, fun w' => by go_simp; rfl, by simp only [pt, ps, p0, p1, zo, zp]; rfl, ?_⟩
      refine pu 2 12 rfl rfl (zq HT_.out (by kernel_rfl)) (fun _ _ _ _ h => h) (by rfl) ⟨_, _, fun w' => by go_simp; rfl, by simp only [pt, ps, p0, p1, zo, zp]; rfl, ?_⟩
      refine ta 3 13 rfl rfl (take_ofW HT_.out HW_.out (by kernel_rfl)) (fun _ _ _ _ h => h) (by rfl) hHeld ⟨_, _, by rintro w' ⟨s0, s1, s2, s3, s4, s5, s6⟩; go_simp; rfl, by simp only [pt, ps, p0, p1, zo, zp]; rfl, ?_⟩
      refine one_ (i := 4) (N := some 14) #[true, true, true, true, true, false, false, false, false, false, false, false, false, false, false, false, false, false, false, false, false, false, false, false] rfl rfl (one_of HT_.out (by kernel_rfl)) (by decide) (fun K hK => ?_)
      refine goes_ Tryd.func90 (by kernel_rfl) rfl #[.agg #[.string ((rd_T77 l0 x3_1).f0), .string ((rd_T77 l0 x3_1).f1), .int .i64 ((rd_T77 l0 x3_1).f2), .int .i64 ((rd_T77 l0 x3_1).f3), .int .i64 ((rd_T77 l0 x3_1).f4), .int .i64 ((rd_T77 l0 x3_1).f5), .int .i64 ((rd_T77 l0 x3_1).f6)]] (by rfl) rfl rfl (by (try simp only [List.map_toArray, List.map_cons, List.map_nil]); first | done | rfl) ?_
      with_reducible refine (spec_l3ValidNode.calls k1 ((rd_T77 l0 x3_1).f0) ((rd_T77 l0 x3_1).f1) ((rd_T77 l0 x3_1).f2) ((rd_T77 l0 x3_1).f3) ((rd_T77 l0 x3_1).f4) ((rd_T77 l0 x3_1).f5) ((rd_T77 l0 x3_1).f6) false _ A4.out).mono ?_
      rintro e w18 ⟨rfl, hb⟩
      refine ⟨_, rfl, ?_⟩
      have n0_ := Aside0.mk (zn (by repeat (first | (with_reducible first | exact HB.out | apply zh | apply zf | apply zg) | exact HB.out)) hb)
      clear HB
      have HB := n0_
      clear n0_
      (try clear hb)
      (try clear hb2)
      (try clear hk)
      (try clear hi)
      refine hK.out _ _ ⟨(zb HB.out hw136_0), (zb HB.out hw136_1), (zb HB.out hw136_2), (zb HB.out hw136_3), (zb HB.out hw136_4), (zb HB.out hw136_5), (zb HB.out hw136_6)⟩ (fun hHeld => ?_)
      clear hK K
      refine norm_ (a' := ?_) ?_ ?_
      rotate_left
      ·show Act.put _ (some 14) _ = _
       simp only [pt, ps, p0, p1, zo, zp]
       rfl
      refine pu 5 15 rfl rfl (zq HT_.out (by kernel_rfl)) (fun _ _ _ _ h => h) (by rfl) ⟨_, _, fun w' => by go_simp; rfl, by simp only [pt, ps, p0, p1, zo, zp]; rfl, ?_⟩
      refine pu 6 16 rfl rfl (zq HT_.out (by kernel_rfl)) (fun _ _ _ _ h => h) (by rfl) ⟨_, _, fun w' => by go_simp; rfl, by simp only [pt, ps, p0, p1, zo, zp]; rfl, ?_⟩
      refine po 7 17 rfl rfl (zq HT_.out (by kernel_rfl)) (fun _ _ _ _ h => h) (by rfl) ⟨_, by simp only [pt, ps, p0, p1, zo, zp]; rfl, ?_⟩
      refine po 8 18 rfl rfl (zq HT_.out (by kernel_rfl)) (fun _ _ _ _ h => h) (by rfl) ⟨_, by simp only [pt, ps, p0, p1, zo, zp]; rfl, ?_⟩
      refine po 9 19 rfl rfl (zq HT_.out (by kernel_rfl)) (fun _ _ _ _ h => h) (by rfl) ⟨_, by simp only [pt, ps, p0, p1, zo, zp]; rfl, ?_⟩
      refine po 10 20 rfl rfl (zq HT_.out (by kernel_rfl)) (fun _ _ _ _ h => h) (by rfl) ⟨_, by simp only [pt, ps, p0, p1, zo, zp]; rfl, ?_⟩
      refine po 11 21 rfl rfl (zq HT_.out (by kernel_rfl)) (fun _ _ _ _ h => h) (by rfl) ⟨_, by simp only [pt, ps, p0, p1, zo, zp]; rfl, ?_⟩
      refine po 12 22 rfl rfl (zq HT_.out (by kernel_rfl)) (fun _ _ _ _ h => h) (by rfl) ⟨_, by simp only [pt, ps, p0, p1, zo, zp]; rfl, ?_⟩
      refine po 13 23 rfl rfl (zq HT_.out (by kernel_rfl)) (fun _ _ _ _ h => h) (by rfl) ⟨_, by simp only [pt, ps, p0, p1, zo, zp]; rfl, ?_⟩
      refine po 14 24 rfl rfl (zq HT_.out (by kernel_rfl)) (fun _ _ _ _ h => h) (by rfl) ⟨_, by simp only [pt, ps, p0, p1, zo, zp]; rfl, ?_⟩
      refine po 15 25 rfl rfl (zq HT_.out (by kernel_rfl)) (fun _ _ _ _ h => h) (by rfl) ⟨_, by simp only [pt, ps, p0, p1, zo, zp]; rfl, ?_⟩
      refine po 16 26 rfl rfl (zq HT_.out (by kernel_rfl)) (fun _ _ _ _ h => h) (by rfl) ⟨_, by simp only [pt, ps, p0, p1, zo, zp]; rfl, ?_⟩
      refine po 17 27 rfl rfl (zq HT_.out (by kernel_rfl)) (fun _ _ _ _ h => h) (by rfl) ⟨_, by simp only [pt, ps, p0, p1, zo, zp]; rfl, ?_⟩
      refine po 18 28 rfl rfl (zq HT_.out (by kernel_rfl)) (fun _ _ _ _ h => h) (by rfl) ⟨_, by simp only [pt, ps, p0, p1, zo, zp]; rfl, ?_⟩
      refine po 19 29 rfl rfl (zq HT_.out (by kernel_rfl)) (fun _ _ _ _ h => h) (by rfl) ⟨_, by simp only [pt, ps, p0, p1, zo, zp]; rfl, ?_⟩
      refine po 20 30 rfl rfl (zq HT_.out (by kernel_rfl)) (fun _ _ _ _ h => h) (by rfl) ⟨_, by simp only [pt, ps, p0, p1, zo, zp]; rfl, ?_⟩
      refine po 21 31 rfl rfl (zq HT_.out (by kernel_rfl)) (fun _ _ _ _ h => h) (by rfl) ⟨_, by simp only [pt, ps, p0, p1, zo, zp]; rfl, ?_⟩
      refine po 22 32 rfl rfl (zq HT_.out (by kernel_rfl)) (fun _ _ _ _ h => h) (by rfl) ⟨_, by simp only [pt, ps, p0, p1, zo, zp]; rfl, ?_⟩
      refine pu 23 33 rfl rfl (zq HT_.out (by kernel_rfl)) (fun _ _ _ _ h => h) (by rfl) ⟨_, _, fun w' => by go_simp; rfl, by simp only [pt, ps, p0, p1, zo, zp]; rfl, ?_⟩
      refine done_ (done_of HT_.out (by kernel_rfl)) ?_
      try go_wp2
      go_ret
      exact ⟨by first | rfl | (simp [*] <;> rfl), by repeat (first | (with_reducible first | exact HB.out | apply zh | apply zf | apply zg) | exact HB.out)⟩
    ·rw [if_neg c3] at H
     exact absurd H (by simp)
   ·rw [if_neg c2] at H
    have c2b0 : decide (x3_1 < (l0.length : Int)) = false := decide_eq_false c2
    clear c2
    obtain rfl := Option.some.inj H
    go_wp2
    go_ret
    exact ⟨by first | rfl | (simp [*] <;> rfl), by repeat (first | (with_reducible first | exact HB.out | apply zh | apply zf | apply zg) | exact HB.out)⟩

end Go.Proofs.YtfiojiokmkiflaaDoor.GFnExactApplyTxn
