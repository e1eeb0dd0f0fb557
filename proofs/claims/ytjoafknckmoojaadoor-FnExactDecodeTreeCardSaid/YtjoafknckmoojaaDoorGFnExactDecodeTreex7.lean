/- Written by give.py, a program of this session, that runs the kit's print and lays contracts proved by hand beside it. -/
import Derived.Test.YtjoafknckmoojaaDoorGFnExactDecodeTreex0
import Derived.Test.YtjoafknckmoojaaDoorGFnExactDecodeTreex6
namespace Go.Proofs.YtjoafknckmoojaaDoor.GFnExactDecodeTree
open Go.RowKit Go.Proofs.YtjoafknckmoojaaDoorW.PrintWords Go.Proofs.YtjoafknckmoojaaDoorW.PrintLast Go.Proofs.YtjoafknckmoojaaDoorW.PrintMore
attribute [local go_sem] max2_int min2_int max_two min_two max_three min_three max_four min_four
attribute [local go_sem high] Go.Proofs.YtjoafknckmoojaaDoorH.str_leq Go.Proofs.YtjoafknckmoojaaDoorH.str_geq Go.Proofs.YtjoafknckmoojaaDoorH.str_gtr
set_option linter.unusedVariables false
set_option linter.unusedSimpArgs false

def impl_nodesOk.l0 : Nat → List (S92) → List (S92) → Int → Int → Option (Bool)
 | 0, _, _, _, _ => none
 | k + 1, x0, x5, x6, x7 => if x7 < x6 then (if 0 ≤ x7 then (if x7 < (x5.length : Int) then ((impl_Node_valid.f k ((rd_T92 x5 x7).f0) ((rd_T92 x5 x7).f1) ((rd_T92 x5 x7).f2) ((rd_T92 x5 x7).f3) ((rd_T92 x5 x7).f4) ((rd_T92 x5 x7).f5) ((rd_T92 x5 x7).f6)).bind fun t185 => (if t185 = true then (if x7 > 0 then (if 0 ≤ (wrap64 (x7 - 1)) then (if (wrap64 (x7 - 1)) < (x0.length : Int) then (if ((Op.bytesLess (((rd_T92 x0 (wrap64 (x7 - 1))).f0).toList) (((rd_T92 x5 x7).f0).toList)) = true) then (impl_nodesOk.l0 k x0 x5 x6 (wrap64 (x7 + 1))) else (some false)) else (none)) else (none)) else (impl_nodesOk.l0 k x0 x5 x6 (wrap64 (x7 + 1)))) else (some false))) else (none)) else (none)) else (some true)
def impl_nodesOk.f (k : Nat) (l0 : List (S92)) : Option (Bool) := impl_nodesOk.l0 k l0 l0 (l0.length : Int) 0
theorem impl_nodesOk.mono_l : ∀ k, (∀ y0 y1 y2 y3, LeO (impl_nodesOk.l0 k y0 y1 y2 y3) (impl_nodesOk.l0 (k + 1) y0 y1 y2 y3))
 | 0 => fun _ _ _ _ r h => by simp [impl_nodesOk.l0] at h
 | k + 1 => by
  have ih0 := impl_nodesOk.mono_l k
  ·intro y0 y1 y2 y3
   unfold impl_nodesOk.l0
   repeat' first
   | (with_reducible exact ih0 _ _ _ _)
   | (with_reducible exact impl_Node_valid.mono _ _ _ _ _ _ _ _)
   | (with_reducible exact LeO.refl _)
   | (with_reducible exact LeO.none _)
   | (with_reducible refine LeO.ite ?_ ?_)
   | (with_reducible refine LeO.bind ?_ (fun _ => ?_))
   | exact ih0 _ _ _ _
   | exact impl_Node_valid.mono _ _ _ _ _ _ _ _
   | exact LeO.none _
   | refine LeO.ite ?_ ?_
   | refine LeO.bind ?_ (fun _ => ?_)
theorem impl_nodesOk.mono : ∀ a0 k, LeO (impl_nodesOk.f k a0) (impl_nodesOk.f (k + 1) a0) := by
 intro a0 k
 have ih0 := impl_nodesOk.mono_l k
 unfold impl_nodesOk.f
 repeat' first
   | (with_reducible exact ih0 _ _ _ _)
   | (with_reducible exact impl_Node_valid.mono _ _ _ _ _ _ _ _)
   | (with_reducible exact LeO.refl _)
   | (with_reducible exact LeO.none _)
   | (with_reducible refine LeO.ite ?_ ?_)
   | (with_reducible refine LeO.bind ?_ (fun _ => ?_))
   | exact ih0 _ _ _ _
   | exact impl_Node_valid.mono _ _ _ _ _ _ _ _
   | exact LeO.none _
   | refine LeO.ite ?_ ?_
   | refine LeO.bind ?_ (fun _ => ?_)
def impl_nodesOk.T4 : Bool × List (List Nat × List Nat) := (true, [([], []), ([0], [0]), ([1], [1]), ([2, 1], [2]), ([3], [3]), ([4, 3], [3, 4]), ([5, 3, 3], [3, 5]), ([6], [6]), ([7, 6], [6, 7]), ([6], [6]), ([6], [6]), ([10, 6], [6, 10]), ([9, 11, 6], [6, 9, 11]), ([12, 6], [6, 12]), ([13, 6], [6, 13]), ([8, 14, 6], [6, 8, 14]), ([6, 15, 3], [3, 6, 15]), ([3, 16], [3, 16])])
def impl_nodesOk.B4 : List Nat := [0, 1, 3, 7, 15, 31, 63, 127, 255, 127, 127, 1151, 3711, 7807, 15999, 32767, 65535, 131071]
theorem impl_nodesOk.tab4 : rtab .any (opsOf Tryd.f106 4) = impl_nodesOk.T4 := by kernel_rfl
theorem impl_nodesOk.bits4 : waitsOk impl_nodesOk.T4.2 impl_nodesOk.B4 = true := by kernel_rfl
set_option maxHeartbeats 8000000 in
set_option maxRecDepth 100000 in
theorem impl_nodesOk.calls (k : Nat) (A0 : Option Addr) (c0 : Nat) (l0 : List (S92)) (r : Bool) (w : World) (hr0 : Kd.C k92 w A0 l0.length l0) (hc0 : l0.length ≤ c0) (h : impl_nodesOk.f k l0 = some r) (hGMAX_ : Go.Proofs.YtjoafknckmoojaaDoorH.GFMAX w) :
  Calls Tryd.prog 106 #[.slice A0 l0.length c0] w fun e w' => e = .returned (.bool r) ∧ Below w.heap.size w w' := by
 have HGMAX_ := Aside0.mk hGMAX_
 clear hGMAX_
 have hu92 := Tryd.underlying92
 have HR0 := Aside0.mk hr0
 have HC0 := Aside0.mk hc0
 clear hr0 hc0
 have HB := Aside0.mk (Below.refl w.heap.size w)
 have H : (impl_nodesOk.l0 k l0 l0 (l0.length : Int) 0) = some r := h
 clear h
 have H' := Aside0.mk H
 clear H
 go_enter Tryd.func106, Tryd.ntmps106
 go_wp2
 go_loopg [7] k (fun kq v7 w' => ∃ (x7_1 : Int), v7 = .int .i64 x7_1 ∧ Aside0 (impl_nodesOk.l0 kq l0 l0 (l0.length : Int) x7_1 = some r) ∧ Aside0 (kq ≤ k) ∧ Aside0 (Below w.heap.size w w'))
 case atStart => exact ⟨(0), (by first | rfl | (simp; done) | (simp [*]; done)), H', ⟨Nat.le_refl _⟩, ⟨by repeat (first | (with_reducible first | exact HB.out | apply ze | apply zc | apply zd) | exact HB.out)⟩⟩
 case round =>
  clear H'
  try clear c1
  obtain ⟨x7_1, rfl, HA, HK1, HB⟩ := hrel
  cases gk with
  | zero => exact absurd HA.out (by simp [impl_nodesOk.l0])
  | succ k1 =>
   have H := HA.out
   clear HA
   simp only [impl_nodesOk.l0] at H
   by_cases c2 : x7_1 < (l0.length : Int)
   ·rw [if_pos c2] at H
    have c2b0 : decide (x7_1 < (l0.length : Int)) = true := decide_eq_true c2
    clear c2
    by_cases c3 : 0 ≤ x7_1
    ·rw [if_pos c3] at H
     have c3b0 : decide (0 ≤ x7_1) = true := decide_eq_true c3
     clear c3
     by_cases c4 : x7_1 < (l0.length : Int)
     ·rw [if_pos c4] at H
      have c4b0 : decide (x7_1 < (l0.length : Int)) = true := decide_eq_true c4
      clear c4
      replace H := Option.bind_eq_some_iff.mp H
      obtain ⟨t185, A50, H⟩ := H
      replace H : (if t185 = true then (if x7_1 > 0 then (if 0 ≤ (wrap64 (x7_1 - 1)) then (if (wrap64 (x7_1 - 1)) < (l0.length : Int) then (if ((Op.bytesLess (((rd_T92 l0 (wrap64 (x7_1 - 1))).f0).toList) (((rd_T92 l0 x7_1).f0).toList)) = true) then (impl_nodesOk.l0 k1 l0 l0 (l0.length : Int) (wrap64 (x7_1 + 1))) else (some false)) else (none)) else (none)) else (impl_nodesOk.l0 k1 l0 l0 (l0.length : Int) (wrap64 (x7_1 + 1)))) else (some false)) = some r := H
      have A5 := Aside0.mk A50
      clear A50
      by_cases c6 : t185 = true
      ·subst c6
       have H1 : (if x7_1 > 0 then (if 0 ≤ (wrap64 (x7_1 - 1)) then (if (wrap64 (x7_1 - 1)) < (l0.length : Int) then (if ((Op.bytesLess (((rd_T92 l0 (wrap64 (x7_1 - 1))).f0).toList) (((rd_T92 l0 x7_1).f0).toList)) = true) then (impl_nodesOk.l0 k1 l0 l0 (l0.length : Int) (wrap64 (x7_1 + 1))) else (some false)) else (none)) else (none)) else (impl_nodesOk.l0 k1 l0 l0 (l0.length : Int) (wrap64 (x7_1 + 1)))) = some r := by rw [if_pos rfl] at H; exact H
       clear H
       have H := H1
       clear H1
       by_cases c7 : x7_1 > 0
       ·rw [if_pos c7] at H
        have c7b0 : decide (0 < x7_1) = true := decide_eq_true c7
        clear c7
        obtain ⟨ji8, hji8⟩ : ∃ j_ : Int, (wrap64 (x7_1 - 1)) = j_ := ⟨_, rfl⟩
        replace H : (if 0 ≤ (ji8) then (if (ji8) < (l0.length : Int) then (if ((Op.bytesLess (((rd_T92 l0 (ji8)).f0).toList) (((rd_T92 l0 x7_1).f0).toList)) = true) then (impl_nodesOk.l0 k1 l0 l0 (l0.length : Int) (wrap64 (x7_1 + 1))) else (some false)) else (none)) else (none)) = some r := by first | (rw [hji8] at H; exact H) | (simp only [hji8] at H ⊢; exact H)
        (try rw [hji8] at A5)
        have hji8w : (IntKind.i64.wrap (x7_1 - 1)) = ji8 := (zo _).trans hji8
        by_cases c9 : 0 ≤ (ji8)
        ·rw [if_pos c9] at H
         have c9b0 : decide (0 ≤ (ji8)) = true := decide_eq_true c9
         clear c9
         by_cases c10 : (ji8) < (l0.length : Int)
         ·rw [if_pos c10] at H
          have c10b0 : decide ((ji8) < (l0.length : Int)) = true := decide_eq_true c10
          clear c10
          by_cases c11 : ((Op.bytesLess (((rd_T92 l0 (ji8)).f0).toList) (((rd_T92 l0 x7_1).f0).toList)) = true)
          ·rw [if_pos c11] at H
           have c11b0 : (Op.bytesLess (((rd_T92 l0 (ji8)).f0).toList) (((rd_T92 l0 x7_1).f0).toList)) = true := c11
           clear c11
           have H' := Aside0.mk H
           clear H
           have p183 : 0 ≤ (x7_1 : Int) := of_decide_eq_true (by first | (with_reducible assumption) | assumption)
           have q183 : x7_1 < (l0.length : Int) := of_decide_eq_true (by first | (with_reducible assumption) | assumption)
           obtain ⟨ad183, e183, hx183_0, hx183_1, hx183_2, hx183_3, hx183_4, hx183_5, hx183_6⟩ := at_T92 HR0.out x7_1 p183 q183
           cases e183
           replace hx183_0 := zb HB.out hx183_0
           replace hx183_1 := zb HB.out hx183_1
           replace hx183_2 := zb HB.out hx183_2
           replace hx183_3 := zb HB.out hx183_3
           replace hx183_4 := zb HB.out hx183_4
           replace hx183_5 := zb HB.out hx183_5
           replace hx183_6 := zb HB.out hx183_6
           replace p183 := eq_true p183
           replace q183 := eq_true q183
           try go_wp2_with (first | ((with_reducible refine zv (N := 4) rfl ?_); refine zw ?hg (N := 4) ?hd (cs := #[.string (⟨#[]⟩ : ByteArray), .string (⟨#[]⟩ : ByteArray), .int .i64 0, .int .i64 0, .int .i64 0, .int .i64 0, .int .i64 0]) (t := 92) ?hr ?_; (case hd => rfl); (case hg => rfl); (case hr => first | (go_simp; done) | (go_simp; rfl)); intro zB hg w12 hbox hb; have n0_ := Aside0.mk (zl (by repeat (first | (with_reducible first | exact HB.out | apply ze | apply zc | apply zd) | exact HB.out)) hb); have n1_ := Aside0.mk (hbox); have n2_ := Aside0.mk ((by rw [hg]; exact (zm (by repeat (first | (with_reducible first | exact HB.out | apply ze | apply zc | apply zd) | exact HB.out))) : w.heap.size ≤ zB)); have n3_ := Aside0.mk ((by rw [hg]; exact (zm (by repeat (first | (with_reducible first | exact HB.out | apply ze | apply zc | apply zd) | exact HB.out))) : w.heap.size ≤ zB)); clear HB; have HB := n0_; have zC := n1_; have GW184 := n2_; have zD := n3_; clear n0_ n1_ n2_ n3_; clear hb hbox hg; have zE : w12.cell? ⟨zB, 0, none⟩ = some (.string (⟨#[]⟩ : ByteArray)) := (zg zC.out 0).trans rfl; have zF : w12.cell? ⟨zB, 1, none⟩ = some (.string (⟨#[]⟩ : ByteArray)) := (zg zC.out 1).trans rfl; have zG : w12.cell? ⟨zB, 2, none⟩ = some (.int .i64 0) := (zg zC.out 2).trans rfl; have zH : w12.cell? ⟨zB, 3, none⟩ = some (.int .i64 0) := (zg zC.out 3).trans rfl; have zI : w12.cell? ⟨zB, 4, none⟩ = some (.int .i64 0) := (zg zC.out 4).trans rfl; have zJ : w12.cell? ⟨zB, 5, none⟩ = some (.int .i64 0) := (zg zC.out 5).trans rfl; have zK : w12.cell? ⟨zB, 6, none⟩ = some (.int .i64 0) := (zg zC.out 6).trans rfl; have zL := zf zC.out 0; have zM := zf zC.out 1; have zN := zf zC.out 2; have zO := zf zC.out 3; have zP := zf zC.out 4; have zQ := zf zC.out 5; have zR := zf zC.out 6))
           have n0_ : Aside0 ((((((((w12.setCell ⟨zB, 0, none⟩ (.string ((rd_T92 l0 x7_1).f0))).setCell ⟨zB, 1, none⟩ (.string ((rd_T92 l0 x7_1).f1))).setCell ⟨zB, 2, none⟩ (.int .i64 ((rd_T92 l0 x7_1).f2))).setCell ⟨zB, 3, none⟩ (.int .i64 ((rd_T92 l0 x7_1).f3))).setCell ⟨zB, 4, none⟩ (.int .i64 ((rd_T92 l0 x7_1).f4))).setCell ⟨zB, 5, none⟩ (.int .i64 ((rd_T92 l0 x7_1).f5))).setCell ⟨zB, 6, none⟩ (.int .i64 ((rd_T92 l0 x7_1).f6))).heap[zB]? = some (.cells #[.string ((rd_T92 l0 x7_1).f0), .string ((rd_T92 l0 x7_1).f1), .int .i64 ((rd_T92 l0 x7_1).f2), .int .i64 ((rd_T92 l0 x7_1).f3), .int .i64 ((rd_T92 l0 x7_1).f4), .int .i64 ((rd_T92 l0 x7_1).f5), .int .i64 ((rd_T92 l0 x7_1).f6)] 92 (0, 0))) := ⟨by (with_reducible repeat (first | refine zi ?_ _ | refine zk ?_ | refine zh ?_ _)); refine zx (cs := #[.string ((rd_T92 l0 x7_1).f0), .string ((rd_T92 l0 x7_1).f1), .int .i64 ((rd_T92 l0 x7_1).f2), .int .i64 ((rd_T92 l0 x7_1).f3), .int .i64 ((rd_T92 l0 x7_1).f4), .int .i64 ((rd_T92 l0 x7_1).f5), .int .i64 0]) ?_ 6 _ rfl; (with_reducible repeat (first | refine zi ?_ _ | refine zk ?_ | refine zh ?_ _)); refine zx (cs := #[.string ((rd_T92 l0 x7_1).f0), .string ((rd_T92 l0 x7_1).f1), .int .i64 ((rd_T92 l0 x7_1).f2), .int .i64 ((rd_T92 l0 x7_1).f3), .int .i64 ((rd_T92 l0 x7_1).f4), .int .i64 0, .int .i64 0]) ?_ 5 _ rfl; (with_reducible repeat (first | refine zi ?_ _ | refine zk ?_ | refine zh ?_ _)); refine zx (cs := #[.string ((rd_T92 l0 x7_1).f0), .string ((rd_T92 l0 x7_1).f1), .int .i64 ((rd_T92 l0 x7_1).f2), .int .i64 ((rd_T92 l0 x7_1).f3), .int .i64 0, .int .i64 0, .int .i64 0]) ?_ 4 _ rfl; (with_reducible repeat (first | refine zi ?_ _ | refine zk ?_ | refine zh ?_ _)); refine zx (cs := #[.string ((rd_T92 l0 x7_1).f0), .string ((rd_T92 l0 x7_1).f1), .int .i64 ((rd_T92 l0 x7_1).f2), .int .i64 0, .int .i64 0, .int .i64 0, .int .i64 0]) ?_ 3 _ rfl; (with_reducible repeat (first | refine zi ?_ _ | refine zk ?_ | refine zh ?_ _)); refine zx (cs := #[.string ((rd_T92 l0 x7_1).f0), .string ((rd_T92 l0 x7_1).f1), .int .i64 0, .int .i64 0, .int .i64 0, .int .i64 0, .int .i64 0]) ?_ 2 _ rfl; (with_reducible repeat (first | refine zi ?_ _ | refine zk ?_ | refine zh ?_ _)); refine zx (cs := #[.string ((rd_T92 l0 x7_1).f0), .string (⟨#[]⟩ : ByteArray), .int .i64 0, .int .i64 0, .int .i64 0, .int .i64 0, .int .i64 0]) ?_ 1 _ rfl; (with_reducible repeat (first | refine zi ?_ _ | refine zk ?_ | refine zh ?_ _)); refine zx (cs := #[.string (⟨#[]⟩ : ByteArray), .string (⟨#[]⟩ : ByteArray), .int .i64 0, .int .i64 0, .int .i64 0, .int .i64 0, .int .i64 0]) ?_ 0 _ rfl; (with_reducible repeat (first | refine zi ?_ _ | refine zk ?_ | refine zh ?_ _)); exact zC.out⟩
           have n1_ : Aside0 (Below w.heap.size w (((((((w12.setCell ⟨zB, 0, none⟩ (.string ((rd_T92 l0 x7_1).f0))).setCell ⟨zB, 1, none⟩ (.string ((rd_T92 l0 x7_1).f1))).setCell ⟨zB, 2, none⟩ (.int .i64 ((rd_T92 l0 x7_1).f2))).setCell ⟨zB, 3, none⟩ (.int .i64 ((rd_T92 l0 x7_1).f3))).setCell ⟨zB, 4, none⟩ (.int .i64 ((rd_T92 l0 x7_1).f4))).setCell ⟨zB, 5, none⟩ (.int .i64 ((rd_T92 l0 x7_1).f5))).setCell ⟨zB, 6, none⟩ (.int .i64 ((rd_T92 l0 x7_1).f6)))) := ⟨by repeat (first | (with_reducible first | exact HB.out | apply ze | apply zc | apply zd | refine zj ?_ zD.out) | exact HB.out)⟩
           (try clear zC)
           (try clear HB)
           generalize (((((((w12.setCell ⟨zB, 0, none⟩ (.string ((rd_T92 l0 x7_1).f0))).setCell ⟨zB, 1, none⟩ (.string ((rd_T92 l0 x7_1).f1))).setCell ⟨zB, 2, none⟩ (.int .i64 ((rd_T92 l0 x7_1).f2))).setCell ⟨zB, 3, none⟩ (.int .i64 ((rd_T92 l0 x7_1).f3))).setCell ⟨zB, 4, none⟩ (.int .i64 ((rd_T92 l0 x7_1).f4))).setCell ⟨zB, 5, none⟩ (.int .i64 ((rd_T92 l0 x7_1).f5))).setCell ⟨zB, 6, none⟩ (.int .i64 ((rd_T92 l0 x7_1).f6))) = w14 at n0_ n1_ ⊢
           have zC := n0_
           have HB := n1_
           clear n0_ n1_
           have n0_ := Aside0.mk (zk zC.out)
           have n1_ := Aside0.mk (zd HB.out)
           clear zC
           clear HB
           have zC := n0_
           have HB := n1_
           clear n0_ n1_
           have p186 : 0 ≤ ((ji8) : Int) := of_decide_eq_true (by first | (with_reducible assumption) | assumption)
           have q186 : (ji8) < (l0.length : Int) := of_decide_eq_true (by first | (with_reducible assumption) | assumption)
           obtain ⟨ad186, e186, hx186_0, hx186_1, hx186_2, hx186_3, hx186_4, hx186_5, hx186_6⟩ := at_T92 HR0.out (ji8) p186 q186
           have hw186_6 := hx186_6
           have hw186_5 := hx186_5
           have hw186_4 := hx186_4
           have hw186_3 := hx186_3
           have hw186_2 := hx186_2
           have hw186_1 := hx186_1
           have hw186_0 := hx186_0
           obtain rfl : ad183 = ad186 := (by injection e186)
           replace hx186_0 := zb HB.out hx186_0
           replace hx186_1 := zb HB.out hx186_1
           replace hx186_2 := zb HB.out hx186_2
           replace hx186_3 := zb HB.out hx186_3
           replace hx186_4 := zb HB.out hx186_4
           replace hx186_5 := zb HB.out hx186_5
           replace hx186_6 := zb HB.out hx186_6
           replace p186 := eq_true p186
           replace q186 := eq_true q186
           refine start_ (n := 18) (S := fun w' => w'.cell? ⟨zB, 0, none⟩ = some (.string ((rd_T92 l0 x7_1).f0)) ∧ w'.cell? ⟨zB, 1, none⟩ = some (.string ((rd_T92 l0 x7_1).f1)) ∧ w'.cell? ⟨zB, 2, none⟩ = some (.int .i64 ((rd_T92 l0 x7_1).f2)) ∧ w'.cell? ⟨zB, 3, none⟩ = some (.int .i64 ((rd_T92 l0 x7_1).f3)) ∧ w'.cell? ⟨zB, 4, none⟩ = some (.int .i64 ((rd_T92 l0 x7_1).f4)) ∧ w'.cell? ⟨zB, 5, none⟩ = some (.int .i64 ((rd_T92 l0 x7_1).f5)) ∧ w'.cell? ⟨zB, 6, none⟩ = some (.int .i64 ((rd_T92 l0 x7_1).f6)) ∧ w'.cell? (ad183.add (((ji8)).toNat * 7)) = some (.string ((rd_T92 l0 (ji8)).f0)) ∧ w'.cell? ⟨(ad183.add (((ji8)).toNat * 7)).block, (ad183.add (((ji8)).toNat * 7)).off + 1, none⟩ = some (.string ((rd_T92 l0 (ji8)).f1)) ∧ w'.cell? ⟨(ad183.add (((ji8)).toNat * 7)).block, (ad183.add (((ji8)).toNat * 7)).off + 2, none⟩ = some (.int .i64 ((rd_T92 l0 (ji8)).f2)) ∧ w'.cell? ⟨(ad183.add (((ji8)).toNat * 7)).block, (ad183.add (((ji8)).toNat * 7)).off + 3, none⟩ = some (.int .i64 ((rd_T92 l0 (ji8)).f3)) ∧ w'.cell? ⟨(ad183.add (((ji8)).toNat * 7)).block, (ad183.add (((ji8)).toNat * 7)).off + 4, none⟩ = some (.int .i64 ((rd_T92 l0 (ji8)).f4)) ∧ w'.cell? ⟨(ad183.add (((ji8)).toNat * 7)).block, (ad183.add (((ji8)).toNat * 7)).off + 5, none⟩ = some (.int .i64 ((rd_T92 l0 (ji8)).f5)) ∧ w'.cell? ⟨(ad183.add (((ji8)).toNat * 7)).block, (ad183.add (((ji8)).toNat * 7)).off + 6, none⟩ = some (.int .i64 ((rd_T92 l0 (ji8)).f6))) (ds := []) #[false, false, false, false, false, false, false, false, false, false, false, false, false, false, false, false, false, false] (by kernel_rfl) rfl rfl ⟨(zg zC.out 0).trans rfl, (zg zC.out 1).trans rfl, (zg zC.out 2).trans rfl, (zg zC.out 3).trans rfl, (zg zC.out 4).trans rfl, (zg zC.out 5).trans rfl, (zg zC.out 6).trans rfl, (zb HB.out hw186_0), (zb HB.out hw186_1), (zb HB.out hw186_2), (zb HB.out hw186_3), (zb HB.out hw186_4), (zb HB.out hw186_5), (zb HB.out hw186_6)⟩ (fun hHeld => ?_); refine with_tabW impl_nodesOk.tab4 impl_nodesOk.bits4 (fun HT_ HW_ => ?_)
           generalize w14.drew = w15 at zC HB hx186_0 hx186_1 hx186_2 hx186_3 hx186_4 hx186_5 hx186_6 hHeld ⊢
           refine take_ (i := 0) (N := some 12) (v := ?_) (a' := ?_) #[true, false, false, false, false, false, false, false, false, false, false, false, false, false, false, false, false, false] rfl rfl (zA HT_.out HW_.out (by kernel_rfl)) (fun _ _ _ h => h) (Or.inl ⟨by rfl, ?_⟩) hHeld ?_ ?_
           rotate_left
           ·rintro w' ⟨s0, s1, s2, s3, s4, s5, s6, s7, s8, s9, s10, s11, s12, s13⟩
            go_simp
            with_reducible rfl
           rotate_left
           ·simp only [Act.put, List.setIfInBounds_toArray, List.set_cons_zero, List.set_cons_succ, zo, zp]
            rfl
           refine one_ (i := 1) (N := some 13) #[true, true, false, false, false, false, false, false, false, false, false, false, false, false, false, false, false, false] rfl rfl (one_of HT_.out (by kernel_rfl)) (by decide) (fun K hK => ?_)
           refine goes_ Tryd.func137 (by kernel_rfl) rfl #[.agg #[.string ((rd_T92 l0 x7_1).f0), .string ((rd_T92 l0 x7_1).f1), .int .i64 ((rd_T92 l0 x7_1).f2), .int .i64 ((rd_T92 l0 x7_1).f3), .int .i64 ((rd_T92 l0 x7_1).f4), .int .i64 ((rd_T92 l0 x7_1).f5), .int .i64 ((rd_T92 l0 x7_1).f6)]] (by rfl) rfl rfl (by (try simp only [List.map_toArray, List.map_cons, List.map_nil]); first | done | rfl | (simp only [List.length_drop, List.length_take]; rfl)) ?_
           with_reducible refine (impl_Node_valid.calls k1 ((rd_T92 l0 x7_1).f0) ((rd_T92 l0 x7_1).f1) ((rd_T92 l0 x7_1).f2) ((rd_T92 l0 x7_1).f3) ((rd_T92 l0 x7_1).f4) ((rd_T92 l0 x7_1).f5) ((rd_T92 l0 x7_1).f6) true _ A5.out ?globMAX_).mono ?_; (case globMAX_ => exact Go.Proofs.YtjoafknckmoojaaDoorH.GFMAX.below HGMAX_.out (by repeat (first | (with_reducible first | exact HB.out | exact Below.refl _ _ | apply ze | apply zc | apply zd | refine zj ?_ (Aside0.out (by assumption))) | exact HB.out)))
           rintro e w16 ⟨rfl, hb⟩
           refine ⟨_, rfl, ?_⟩
           have n0_ := Aside0.mk (zt (g := zB) (o := .cells #[.string ((rd_T92 l0 x7_1).f0), .string ((rd_T92 l0 x7_1).f1), .int .i64 ((rd_T92 l0 x7_1).f2), .int .i64 ((rd_T92 l0 x7_1).f3), .int .i64 ((rd_T92 l0 x7_1).f4), .int .i64 ((rd_T92 l0 x7_1).f5), .int .i64 ((rd_T92 l0 x7_1).f6)] 92 (0, 0)) (by (with_reducible repeat (first | refine zi ?_ _ | refine zk ?_ | refine zh ?_ _)); exact zC.out) hb)
           have n1_ := Aside0.mk (zl (by repeat (first | (with_reducible first | exact HB.out | apply ze | apply zc | apply zd | refine zj ?_ zD.out) | exact HB.out)) hb)
           clear zC
           clear HB
           have zC := n0_
           have HB := n1_
           clear n0_ n1_
           (try clear hb)
           (try clear hb2)
           (try clear hk)
           (try clear hi)
           refine hK.out _ _ ⟨(zg zC.out 0).trans rfl, (zg zC.out 1).trans rfl, (zg zC.out 2).trans rfl, (zg zC.out 3).trans rfl, (zg zC.out 4).trans rfl, (zg zC.out 5).trans rfl, (zg zC.out 6).trans rfl, (zb HB.out hw186_0), (zb HB.out hw186_1), (zb HB.out hw186_2), (zb HB.out hw186_3), (zb HB.out hw186_4), (zb HB.out hw186_5), (zb HB.out hw186_6)⟩ (fun hHeld => ?_)
           clear hK K
           refine norm_ (a' := ?_) ?_ ?_
           rotate_left
           ·show Act.put _ (some 13) _ = _
            simp only [Act.put, List.setIfInBounds_toArray, List.set_cons_zero, List.set_cons_succ, zo, zp]
            rfl
           refine zr (i := 2) (N := some 14) (v := ?_) (a' := ?_) #[true, true, true, false, false, false, false, false, false, false, false, false, false, false, false, false, false, false] rfl rfl (zn HT_.out (by kernel_rfl)) (fun _ _ _ h => h) (Or.inl ⟨by rfl, ?_⟩) ?_ ?_
           rotate_left
           ·intro w'
            go_simp
            with_reducible rfl
           rotate_left
           ·simp only [Act.put, List.setIfInBounds_toArray, List.set_cons_zero, List.set_cons_succ, zo, zp]
            rfl
           refine zr (i := 3) (N := some 15) (v := ?_) (a' := ?_) #[true, true, true, true, false, false, false, false, false, false, false, false, false, false, false, false, false, false] rfl rfl (zn HT_.out (by kernel_rfl)) (fun _ _ _ h => h) (Or.inl ⟨by rfl, ?_⟩) ?_ ?_
           rotate_left
           ·intro w'
            go_simp
            with_reducible rfl
           rotate_left
           ·simp only [Act.put, List.setIfInBounds_toArray, List.set_cons_zero, List.set_cons_succ, zo, zp]
            rfl
           refine zr (i := 4) (N := some 16) (v := ?_) (a' := ?_) #[true, true, true, true, true, false, false, false, false, false, false, false, false, false, false, false, false, false] rfl rfl (zn HT_.out (by kernel_rfl)) (fun _ _ _ h => h) (Or.inl ⟨by rfl, ?_⟩) ?_ ?_
           rotate_left
           ·intro w'
            go_simp
            with_reducible rfl
           rotate_left
           ·simp only [Act.put, List.setIfInBounds_toArray, List.set_cons_zero, List.set_cons_succ, zo, zp]
            rfl
           refine zr (i := 5) (N := some 17) (v := ?_) (a' := ?_) #[true, true, true, true, true, true, false, false, false, false, false, false, false, false, false, false, false, false] rfl rfl (zn HT_.out (by kernel_rfl)) (fun _ _ _ h => h) (Or.inl ⟨by rfl, ?_⟩) ?_ ?_
           rotate_left
           ·intro w'
            go_simp
            with_reducible rfl
           rotate_left
           ·simp only [Act.put, List.setIfInBounds_toArray, List.set_cons_zero, List.set_cons_succ, zo, zp]
            rfl
           refine zr (i := 6) (N := some 18) (v := ?_) (a' := ?_) #[true, true, true, true, true, true, true, false, false, false, false, false, false, false, false, false, false, false] rfl rfl (zn HT_.out (by kernel_rfl)) (fun _ _ _ h => h) (Or.inl ⟨by rfl, ?_⟩) ?_ ?_
           rotate_left
           ·intro w'
            go_simp
            with_reducible rfl
           rotate_left
           ·simp only [Act.put, List.setIfInBounds_toArray, List.set_cons_zero, List.set_cons_succ, zo, zp]
            rfl
           refine zr (i := 7) (N := some 19) (v := ?_) (a' := ?_) #[true, true, true, true, true, true, true, true, false, false, false, false, false, false, false, false, false, false] rfl rfl (zn HT_.out (by kernel_rfl)) (fun _ _ _ h => h) (Or.inl ⟨by rfl, ?_⟩) ?_ ?_
           rotate_left
           ·intro w'
            go_simp
            with_reducible rfl
           rotate_left
           ·simp only [Act.put, List.setIfInBounds_toArray, List.set_cons_zero, List.set_cons_succ, zo, zp]
            rfl
           refine zr (i := 9) (N := some 21) (v := ?_) (a' := ?_) #[true, true, true, true, true, true, true, true, false, true, false, false, false, false, false, false, false, false] rfl rfl (zn HT_.out (by kernel_rfl)) (fun _ _ _ h => h) (Or.inl ⟨by rfl, ?_⟩) ?_ ?_
           rotate_left
           ·intro w'
            go_simp
            with_reducible rfl
           rotate_left
           ·simp only [Act.put, List.setIfInBounds_toArray, List.set_cons_zero, List.set_cons_succ, zo, zp]
            rfl
           refine zr (i := 10) (N := some 22) (v := ?_) (a' := ?_) #[true, true, true, true, true, true, true, true, false, true, true, false, false, false, false, false, false, false] rfl rfl (zn HT_.out (by kernel_rfl)) (fun _ _ _ h => h) (Or.inl ⟨by rfl, ?_⟩) ?_ ?_
           rotate_left
           ·intro w'
            go_simp
            with_reducible rfl
           rotate_left
           ·simp only [Act.put, List.setIfInBounds_toArray, List.set_cons_zero, List.set_cons_succ, zo, zp]
            rfl
           refine zr (i := 11) (N := some 23) (v := ?_) (a' := ?_) #[true, true, true, true, true, true, true, true, false, true, true, true, false, false, false, false, false, false] rfl rfl (zn HT_.out (by kernel_rfl)) (fun _ _ _ h => h) (Or.inl ⟨by rfl, ?_⟩) ?_ ?_
           rotate_left
           ·intro w'
            go_simp
            with_reducible rfl
           rotate_left
           ·simp only [Act.put, List.setIfInBounds_toArray, List.set_cons_zero, List.set_cons_succ, zo, zp]
            rfl
           refine zr (i := 12) (N := some 24) (v := ?_) (a' := ?_) #[true, true, true, true, true, true, true, true, false, true, true, true, true, false, false, false, false, false] rfl rfl (zn HT_.out (by kernel_rfl)) (fun _ _ _ h => h) (Or.inl ⟨by rfl, ?_⟩) ?_ ?_
           rotate_left
           ·intro w'
            go_simp
            with_reducible rfl
           rotate_left
           ·simp only [Act.put, List.setIfInBounds_toArray, List.set_cons_zero, List.set_cons_succ, zo, zp]
            rfl
           refine zr (i := 13) (N := some 25) (v := ?_) (a' := ?_) #[true, true, true, true, true, true, true, true, false, true, true, true, true, true, false, false, false, false] rfl rfl (zn HT_.out (by kernel_rfl)) (fun _ _ _ h => h) (Or.inl ⟨by rfl, ?_⟩) ?_ ?_
           rotate_left
           ·intro w'
            go_simp
            with_reducible rfl
           rotate_left
           ·simp only [Act.put, List.setIfInBounds_toArray, List.set_cons_zero, List.set_cons_succ, zo, zp]
            rfl
           refine take_ (i := 8) (N := some 20) (v := ?_) (a' := ?_) #[true, true, true, true, true, true, true, true, true, true, true, true, true, true, false, false, false, false] rfl rfl (zA HT_.out HW_.out (by kernel_rfl)) (fun _ _ _ h => h) (Or.inl ⟨by rfl, ?_⟩) hHeld ?_ ?_
           rotate_left
           ·rintro w' ⟨s0, s1, s2, s3, s4, s5, s6, s7, s8, s9, s10, s11, s12, s13⟩
            go_simp
            with_reducible rfl
           rotate_left
           ·simp only [Act.put, List.setIfInBounds_toArray, List.set_cons_zero, List.set_cons_succ, zo, zp]
            rfl
           refine take_ (i := 14) (N := some 26) (v := ?_) (a' := ?_) #[true, true, true, true, true, true, true, true, true, true, true, true, true, true, true, false, false, false] rfl rfl (zA HT_.out HW_.out (by kernel_rfl)) (fun _ _ _ h => h) (Or.inl ⟨by rfl, ?_⟩) hHeld ?_ ?_
           rotate_left
           ·rintro w' ⟨s0, s1, s2, s3, s4, s5, s6, s7, s8, s9, s10, s11, s12, s13⟩
            go_simp
            with_reducible rfl
           rotate_left
           ·simp only [Act.put, List.setIfInBounds_toArray, List.set_cons_zero, List.set_cons_succ, zo, zp]
            rfl
           refine zr (i := 15) (N := some 27) (v := ?_) (a' := ?_) #[true, true, true, true, true, true, true, true, true, true, true, true, true, true, true, true, false, false] rfl rfl (zn HT_.out (by kernel_rfl)) (fun _ _ _ h => h) (Or.inl ⟨by rfl, ?_⟩) ?_ ?_
           rotate_left
           ·intro w'
            go_simp
            with_reducible rfl
           rotate_left
           ·simp only [Act.put, List.setIfInBounds_toArray, List.set_cons_zero, List.set_cons_succ, zo, zp]
            rfl
           refine zr (i := 16) (N := some 28) (v := ?_) (a' := ?_) #[true, true, true, true, true, true, true, true, true, true, true, true, true, true, true, true, true, false] rfl rfl (zn HT_.out (by kernel_rfl)) (fun _ _ _ h => h) (Or.inl ⟨by rfl, ?_⟩) ?_ ?_
           rotate_left
           ·intro w'
            go_simp
            with_reducible rfl
           rotate_left
           ·simp only [Act.put, List.setIfInBounds_toArray, List.set_cons_zero, List.set_cons_succ, zo, zp]
            rfl
           refine zr (i := 17) (N := some 29) (v := ?_) (a' := ?_) #[true, true, true, true, true, true, true, true, true, true, true, true, true, true, true, true, true, true] rfl rfl (zn HT_.out (by kernel_rfl)) (fun _ _ _ h => h) (Or.inl ⟨by rfl, ?_⟩) ?_ ?_
           rotate_left
           ·intro w'
            go_simp
            with_reducible rfl
           rotate_left
           ·simp only [Act.put, List.setIfInBounds_toArray, List.set_cons_zero, List.set_cons_succ, zo, zp]
            rfl
           refine done_ (done_of HT_.out (by kernel_rfl)) ?_
           try go_wp2
           go_roundg k1
           case measure => have := HK1.out; omega
           case rel => exact ⟨(wrap64 (x7_1 + 1)), (by first | rfl | (simp; done) | (simp [*]; done)), H', ⟨by have := HK1.out; omega⟩, ⟨by repeat (first | (with_reducible first | exact HB.out | apply ze | apply zc | apply zd | refine zj ?_ zD.out) | exact HB.out)⟩⟩
          ·rw [if_neg c11] at H
           have c11b0 : (Op.bytesLess (((rd_T92 l0 (ji8)).f0).toList) (((rd_T92 l0 x7_1).f0).toList)) = false := by simpa using c11
           clear c11
           obtain rfl := Option.some.inj H
           have p183 : 0 ≤ (x7_1 : Int) := of_decide_eq_true (by first | (with_reducible assumption) | assumption)
           have q183 : x7_1 < (l0.length : Int) := of_decide_eq_true (by first | (with_reducible assumption) | assumption)
           obtain ⟨ad183, e183, hx183_0, hx183_1, hx183_2, hx183_3, hx183_4, hx183_5, hx183_6⟩ := at_T92 HR0.out x7_1 p183 q183
           cases e183
           replace hx183_0 := zb HB.out hx183_0
           replace hx183_1 := zb HB.out hx183_1
           replace hx183_2 := zb HB.out hx183_2
           replace hx183_3 := zb HB.out hx183_3
           replace hx183_4 := zb HB.out hx183_4
           replace hx183_5 := zb HB.out hx183_5
           replace hx183_6 := zb HB.out hx183_6
           replace p183 := eq_true p183
           replace q183 := eq_true q183
           try go_wp2_with (first | ((with_reducible refine zv (N := 4) rfl ?_); refine zw ?hg (N := 4) ?hd (cs := #[.string (⟨#[]⟩ : ByteArray), .string (⟨#[]⟩ : ByteArray), .int .i64 0, .int .i64 0, .int .i64 0, .int .i64 0, .int .i64 0]) (t := 92) ?hr ?_; (case hd => rfl); (case hg => rfl); (case hr => first | (go_simp; done) | (go_simp; rfl)); intro zB hg w17 hbox hb; have n0_ := Aside0.mk (zl (by repeat (first | (with_reducible first | exact HB.out | apply ze | apply zc | apply zd) | exact HB.out)) hb); have n1_ := Aside0.mk (hbox); have n2_ := Aside0.mk ((by rw [hg]; exact (zm (by repeat (first | (with_reducible first | exact HB.out | apply ze | apply zc | apply zd) | exact HB.out))) : w.heap.size ≤ zB)); have n3_ := Aside0.mk ((by rw [hg]; exact (zm (by repeat (first | (with_reducible first | exact HB.out | apply ze | apply zc | apply zd) | exact HB.out))) : w.heap.size ≤ zB)); clear HB; have HB := n0_; have zC := n1_; have GW184 := n2_; have zD := n3_; clear n0_ n1_ n2_ n3_; clear hb hbox hg; have zS : w17.cell? ⟨zB, 0, none⟩ = some (.string (⟨#[]⟩ : ByteArray)) := (zg zC.out 0).trans rfl; have zT : w17.cell? ⟨zB, 1, none⟩ = some (.string (⟨#[]⟩ : ByteArray)) := (zg zC.out 1).trans rfl; have zU : w17.cell? ⟨zB, 2, none⟩ = some (.int .i64 0) := (zg zC.out 2).trans rfl; have zV : w17.cell? ⟨zB, 3, none⟩ = some (.int .i64 0) := (zg zC.out 3).trans rfl; have zW : w17.cell? ⟨zB, 4, none⟩ = some (.int .i64 0) := (zg zC.out 4).trans rfl; have zX : w17.cell? ⟨zB, 5, none⟩ = some (.int .i64 0) := (zg zC.out 5).trans rfl; have zY : w17.cell? ⟨zB, 6, none⟩ = some (.int .i64 0) := (zg zC.out 6).trans rfl; have zZ := zf zC.out 0; have zab := zf zC.out 1; have zbb := zf zC.out 2; have zcb := zf zC.out 3; have zdb := zf zC.out 4; have zeb := zf zC.out 5; have zfb := zf zC.out 6))
           have n0_ : Aside0 ((((((((w17.setCell ⟨zB, 0, none⟩ (.string ((rd_T92 l0 x7_1).f0))).setCell ⟨zB, 1, none⟩ (.string ((rd_T92 l0 x7_1).f1))).setCell ⟨zB, 2, none⟩ (.int .i64 ((rd_T92 l0 x7_1).f2))).setCell ⟨zB, 3, none⟩ (.int .i64 ((rd_T92 l0 x7_1).f3))).setCell ⟨zB, 4, none⟩ (.int .i64 ((rd_T92 l0 x7_1).f4))).setCell ⟨zB, 5, none⟩ (.int .i64 ((rd_T92 l0 x7_1).f5))).setCell ⟨zB, 6, none⟩ (.int .i64 ((rd_T92 l0 x7_1).f6))).heap[zB]? = some (.cells #[.string ((rd_T92 l0 x7_1).f0), .string ((rd_T92 l0 x7_1).f1), .int .i64 ((rd_T92 l0 x7_1).f2), .int .i64 ((rd_T92 l0 x7_1).f3), .int .i64 ((rd_T92 l0 x7_1).f4), .int .i64 ((rd_T92 l0 x7_1).f5), .int .i64 ((rd_T92 l0 x7_1).f6)] 92 (0, 0))) := ⟨by (with_reducible repeat (first | refine zi ?_ _ | refine zk ?_ | refine zh ?_ _)); refine zx (cs := #[.string ((rd_T92 l0 x7_1).f0), .string ((rd_T92 l0 x7_1).f1), .int .i64 ((rd_T92 l0 x7_1).f2), .int .i64 ((rd_T92 l0 x7_1).f3), .int .i64 ((rd_T92 l0 x7_1).f4), .int .i64 ((rd_T92 l0 x7_1).f5), .int .i64 0]) ?_ 6 _ rfl; (with_reducible repeat (first | refine zi ?_ _ | refine zk ?_ | refine zh ?_ _)); refine zx (cs := #[.string ((rd_T92 l0 x7_1).f0), .string ((rd_T92 l0 x7_1).f1), .int .i64 ((rd_T92 l0 x7_1).f2), .int .i64 ((rd_T92 l0 x7_1).f3), .int .i64 ((rd_T92 l0 x7_1).f4), .int .i64 0, .int .i64 0]) ?_ 5 _ rfl; (with_reducible repeat (first | refine zi ?_ _ | refine zk ?_ | refine zh ?_ _)); refine zx (cs := #[.string ((rd_T92 l0 x7_1).f0), .string ((rd_T92 l0 x7_1).f1), .int .i64 ((rd_T92 l0 x7_1).f2), .int .i64 ((rd_T92 l0 x7_1).f3), .int .i64 0, .int .i64 0, .int .i64 0]) ?_ 4 _ rfl; (with_reducible repeat (first | refine zi ?_ _ | refine zk ?_ | refine zh ?_ _)); refine zx (cs := #[.string ((rd_T92 l0 x7_1).f0), .string ((rd_T92 l0 x7_1).f1), .int .i64 ((rd_T92 l0 x7_1).f2), .int .i64 0, .int .i64 0, .int .i64 0, .int .i64 0]) ?_ 3 _ rfl; (with_reducible repeat (first | refine zi ?_ _ | refine zk ?_ | refine zh ?_ _)); refine zx (cs := #[.string ((rd_T92 l0 x7_1).f0), .string ((rd_T92 l0 x7_1).f1), .int .i64 0, .int .i64 0, .int .i64 0, .int .i64 0, .int .i64 0]) ?_ 2 _ rfl; (with_reducible repeat (first | refine zi ?_ _ | refine zk ?_ | refine zh ?_ _)); refine zx (cs := #[.string ((rd_T92 l0 x7_1).f0), .string (⟨#[]⟩ : ByteArray), .int .i64 0, .int .i64 0, .int .i64 0, .int .i64 0, .int .i64 0]) ?_ 1 _ rfl; (with_reducible repeat (first | refine zi ?_ _ | refine zk ?_ | refine zh ?_ _)); refine zx (cs := #[.string (⟨#[]⟩ : ByteArray), .string (⟨#[]⟩ : ByteArray), .int .i64 0, .int .i64 0, .int .i64 0, .int .i64 0, .int .i64 0]) ?_ 0 _ rfl; (with_reducible repeat (first | refine zi ?_ _ | refine zk ?_ | refine zh ?_ _)); exact zC.out⟩
           have n1_ : Aside0 (Below w.heap.size w (((((((w17.setCell ⟨zB, 0, none⟩ (.string ((rd_T92 l0 x7_1).f0))).setCell ⟨zB, 1, none⟩ (.string ((rd_T92 l0 x7_1).f1))).setCell ⟨zB, 2, none⟩ (.int .i64 ((rd_T92 l0 x7_1).f2))).setCell ⟨zB, 3, none⟩ (.int .i64 ((rd_T92 l0 x7_1).f3))).setCell ⟨zB, 4, none⟩ (.int .i64 ((rd_T92 l0 x7_1).f4))).setCell ⟨zB, 5, none⟩ (.int .i64 ((rd_T92 l0 x7_1).f5))).setCell ⟨zB, 6, none⟩ (.int .i64 ((rd_T92 l0 x7_1).f6)))) := ⟨by repeat (first | (with_reducible first | exact HB.out | apply ze | apply zc | apply zd | refine zj ?_ zD.out) | exact HB.out)⟩
           (try clear zC)
           (try clear HB)
           generalize (((((((w17.setCell ⟨zB, 0, none⟩ (.string ((rd_T92 l0 x7_1).f0))).setCell ⟨zB, 1, none⟩ (.string ((rd_T92 l0 x7_1).f1))).setCell ⟨zB, 2, none⟩ (.int .i64 ((rd_T92 l0 x7_1).f2))).setCell ⟨zB, 3, none⟩ (.int .i64 ((rd_T92 l0 x7_1).f3))).setCell ⟨zB, 4, none⟩ (.int .i64 ((rd_T92 l0 x7_1).f4))).setCell ⟨zB, 5, none⟩ (.int .i64 ((rd_T92 l0 x7_1).f5))).setCell ⟨zB, 6, none⟩ (.int .i64 ((rd_T92 l0 x7_1).f6))) = w19 at n0_ n1_ ⊢
           have zC := n0_
           have HB := n1_
           clear n0_ n1_
           have n0_ := Aside0.mk (zk zC.out)
           have n1_ := Aside0.mk (zd HB.out)
           clear zC
           clear HB
           have zC := n0_
           have HB := n1_
           clear n0_ n1_
           have p186 : 0 ≤ ((ji8) : Int) := of_decide_eq_true (by first | (with_reducible assumption) | assumption)
           have q186 : (ji8) < (l0.length : Int) := of_decide_eq_true (by first | (with_reducible assumption) | assumption)
           obtain ⟨ad186, e186, hx186_0, hx186_1, hx186_2, hx186_3, hx186_4, hx186_5, hx186_6⟩ := at_T92 HR0.out (ji8) p186 q186
           have hw186_6 := hx186_6
           have hw186_5 := hx186_5
           have hw186_4 := hx186_4
           have hw186_3 := hx186_3
           have hw186_2 := hx186_2
           have hw186_1 := hx186_1
           have hw186_0 := hx186_0
           obtain rfl : ad183 = ad186 := (by injection e186)
           replace hx186_0 := zb HB.out hx186_0
           replace hx186_1 := zb HB.out hx186_1
           replace hx186_2 := zb HB.out hx186_2
           replace hx186_3 := zb HB.out hx186_3
           replace hx186_4 := zb HB.out hx186_4
           replace hx186_5 := zb HB.out hx186_5
           replace hx186_6 := zb HB.out hx186_6
           replace p186 := eq_true p186
           replace q186 := eq_true q186
           refine start_ (n := 18) (S := fun w' => w'.cell? ⟨zB, 0, none⟩ = some (.string ((rd_T92 l0 x7_1).f0)) ∧ w'.cell? ⟨zB, 1, none⟩ = some (.string ((rd_T92 l0 x7_1).f1)) ∧ w'.cell? ⟨zB, 2, none⟩ = some (.int .i64 ((rd_T92 l0 x7_1).f2)) ∧ w'.cell? ⟨zB, 3, none⟩ = some (.int .i64 ((rd_T92 l0 x7_1).f3)) ∧ w'.cell? ⟨zB, 4, none⟩ = some (.int .i64 ((rd_T92 l0 x7_1).f4)) ∧ w'.cell? ⟨zB, 5, none⟩ = some (.int .i64 ((rd_T92 l0 x7_1).f5)) ∧ w'.cell? ⟨zB, 6, none⟩ = some (.int .i64 ((rd_T92 l0 x7_1).f6)) ∧ w'.cell? (ad183.add (((ji8)).toNat * 7)) = some (.string ((rd_T92 l0 (ji8)).f0)) ∧ w'.cell? ⟨(ad183.add (((ji8)).toNat * 7)).block, (ad183.add (((ji8)).toNat * 7)).off + 1, none⟩ = some (.string ((rd_T92 l0 (ji8)).f1)) ∧ w'.cell? ⟨(ad183.add (((ji8)).toNat * 7)).block, (ad183.add (((ji8)).toNat * 7)).off + 2, none⟩ = some (.int .i64 ((rd_T92 l0 (ji8)).f2)) ∧ w'.cell? ⟨(ad183.add (((ji8)).toNat * 7)).block, (ad183.add (((ji8)).toNat * 7)).off + 3, none⟩ = some (.int .i64 ((rd_T92 l0 (ji8)).f3)) ∧ w'.cell? ⟨(ad183.add (((ji8)).toNat * 7)).block, (ad183.add (((ji8)).toNat * 7)).off + 4, none⟩ = some (.int .i64 ((rd_T92 l0 (ji8)).f4)) ∧ w'.cell? ⟨(ad183.add (((ji8)).toNat * 7)).block, (ad183.add (((ji8)).toNat * 7)).off + 5, none⟩ = some (.int .i64 ((rd_T92 l0 (ji8)).f5)) ∧ w'.cell? ⟨(ad183.add (((ji8)).toNat * 7)).block, (ad183.add (((ji8)).toNat * 7)).off + 6, none⟩ = some (.int .i64 ((rd_T92 l0 (ji8)).f6))) (ds := []) #[false, false, false, false, false, false, false, false, false, false, false, false, false, false, false, false, false, false] (by kernel_rfl) rfl rfl ⟨(zg zC.out 0).trans rfl, (zg zC.out 1).trans rfl, (zg zC.out 2).trans rfl, (zg zC.out 3).trans rfl, (zg zC.out 4).trans rfl, (zg zC.out 5).trans rfl, (zg zC.out 6).trans rfl, (zb HB.out hw186_0), (zb HB.out hw186_1), (zb HB.out hw186_2), (zb HB.out hw186_3), (zb HB.out hw186_4), (zb HB.out hw186_5), (zb HB.out hw186_6)⟩ (fun hHeld => ?_); refine with_tabW impl_nodesOk.tab4 impl_nodesOk.bits4 (fun HT_ HW_ => ?_)
           generalize w19.drew = w20 at zC HB hx186_0 hx186_1 hx186_2 hx186_3 hx186_4 hx186_5 hx186_6 hHeld ⊢
           refine take_ (i := 0) (N := some 12) (v := ?_) (a' := ?_) #[true, false, false, false, false, false, false, false, false, false, false, false, false, false, false, false, false, false] rfl rfl (zA HT_.out HW_.out (by kernel_rfl)) (fun _ _ _ h => h) (Or.inl ⟨by rfl, ?_⟩) hHeld ?_ ?_
           rotate_left
           ·rintro w' ⟨s0, s1, s2, s3, s4, s5, s6, s7, s8, s9, s10, s11, s12, s13⟩
            go_simp
            with_reducible rfl
           rotate_left
           ·simp only [Act.put, List.setIfInBounds_toArray, List.set_cons_zero, List.set_cons_succ, zo, zp]
            rfl
           refine one_ (i := 1) (N := some 13) #[true, true, false, false, false, false, false, false, false, false, false, false, false, false, false, false, false, false] rfl rfl (one_of HT_.out (by kernel_rfl)) (by decide) (fun K hK => ?_)
           refine goes_ Tryd.func137 (by kernel_rfl) rfl #[.agg #[.string ((rd_T92 l0 x7_1).f0), .string ((rd_T92 l0 x7_1).f1), .int .i64 ((rd_T92 l0 x7_1).f2), .int .i64 ((rd_T92 l0 x7_1).f3), .int .i64 ((rd_T92 l0 x7_1).f4), .int .i64 ((rd_T92 l0 x7_1).f5), .int .i64 ((rd_T92 l0 x7_1).f6)]] (by rfl) rfl rfl (by (try simp only [List.map_toArray, List.map_cons, List.map_nil]); first | done | rfl | (simp only [List.length_drop, List.length_take]; rfl)) ?_
           with_reducible refine (impl_Node_valid.calls k1 ((rd_T92 l0 x7_1).f0) ((rd_T92 l0 x7_1).f1) ((rd_T92 l0 x7_1).f2) ((rd_T92 l0 x7_1).f3) ((rd_T92 l0 x7_1).f4) ((rd_T92 l0 x7_1).f5) ((rd_T92 l0 x7_1).f6) true _ A5.out ?globMAX_).mono ?_; (case globMAX_ => exact Go.Proofs.YtjoafknckmoojaaDoorH.GFMAX.below HGMAX_.out (by repeat (first | (with_reducible first | exact HB.out | exact Below.refl _ _ | apply ze | apply zc | apply zd | refine zj ?_ (Aside0.out (by assumption))) | exact HB.out)))
           rintro e w21 ⟨rfl, hb⟩
           refine ⟨_, rfl, ?_⟩
           have n0_ := Aside0.mk (zt (g := zB) (o := .cells #[.string ((rd_T92 l0 x7_1).f0), .string ((rd_T92 l0 x7_1).f1), .int .i64 ((rd_T92 l0 x7_1).f2), .int .i64 ((rd_T92 l0 x7_1).f3), .int .i64 ((rd_T92 l0 x7_1).f4), .int .i64 ((rd_T92 l0 x7_1).f5), .int .i64 ((rd_T92 l0 x7_1).f6)] 92 (0, 0)) (by (with_reducible repeat (first | refine zi ?_ _ | refine zk ?_ | refine zh ?_ _)); exact zC.out) hb)
           have n1_ := Aside0.mk (zl (by repeat (first | (with_reducible first | exact HB.out | apply ze | apply zc | apply zd | refine zj ?_ zD.out) | exact HB.out)) hb)
           clear zC
           clear HB
           have zC := n0_
           have HB := n1_
           clear n0_ n1_
           (try clear hb)
           (try clear hb2)
           (try clear hk)
           (try clear hi)
           refine hK.out _ _ ⟨(zg zC.out 0).trans rfl, (zg zC.out 1).trans rfl, (zg zC.out 2).trans rfl, (zg zC.out 3).trans rfl, (zg zC.out 4).trans rfl, (zg zC.out 5).trans rfl, (zg zC.out 6).trans rfl, (zb HB.out hw186_0), (zb HB.out hw186_1), (zb HB.out hw186_2), (zb HB.out hw186_3), (zb HB.out hw186_4), (zb HB.out hw186_5), (zb HB.out hw186_6)⟩ (fun hHeld => ?_)
           clear hK K
           refine norm_ (a' := ?_) ?_ ?_
           rotate_left
           ·show Act.put _ (some 13) _ = _
            simp only [Act.put, List.setIfInBounds_toArray, List.set_cons_zero, List.set_cons_succ, zo, zp]
            rfl
           refine zr (i := 2) (N := some 14) (v := ?_) (a' := ?_) #[true, true, true, false, false, false, false, false, false, false, false, false, false, false, false, false, false, false] rfl rfl (zn HT_.out (by kernel_rfl)) (fun _ _ _ h => h) (Or.inl ⟨by rfl, ?_⟩) ?_ ?_
           rotate_left
           ·intro w'
            go_simp
            with_reducible rfl
           rotate_left
           ·simp only [Act.put, List.setIfInBounds_toArray, List.set_cons_zero, List.set_cons_succ, zo, zp]
            rfl
           refine zr (i := 3) (N := some 15) (v := ?_) (a' := ?_) #[true, true, true, true, false, false, false, false, false, false, false, false, false, false, false, false, false, false] rfl rfl (zn HT_.out (by kernel_rfl)) (fun _ _ _ h => h) (Or.inl ⟨by rfl, ?_⟩) ?_ ?_
           rotate_left
           ·intro w'
            go_simp
            with_reducible rfl
           rotate_left
           ·simp only [Act.put, List.setIfInBounds_toArray, List.set_cons_zero, List.set_cons_succ, zo, zp]
            rfl
           refine zr (i := 4) (N := some 16) (v := ?_) (a' := ?_) #[true, true, true, true, true, false, false, false, false, false, false, false, false, false, false, false, false, false] rfl rfl (zn HT_.out (by kernel_rfl)) (fun _ _ _ h => h) (Or.inl ⟨by rfl, ?_⟩) ?_ ?_
           rotate_left
           ·intro w'
            go_simp
            with_reducible rfl
           rotate_left
           ·simp only [Act.put, List.setIfInBounds_toArray, List.set_cons_zero, List.set_cons_succ, zo, zp]
            rfl
           refine zr (i := 5) (N := some 17) (v := ?_) (a' := ?_) #[true, true, true, true, true, true, false, false, false, false, false, false, false, false, false, false, false, false] rfl rfl (zn HT_.out (by kernel_rfl)) (fun _ _ _ h => h) (Or.inl ⟨by rfl, ?_⟩) ?_ ?_
           rotate_left
           ·intro w'
            go_simp
            with_reducible rfl
           rotate_left
           ·simp only [Act.put, List.setIfInBounds_toArray, List.set_cons_zero, List.set_cons_succ, zo, zp]
            rfl
           refine zr (i := 6) (N := some 18) (v := ?_) (a' := ?_) #[true, true, true, true, true, true, true, false, false, false, false, false, false, false, false, false, false, false] rfl rfl (zn HT_.out (by kernel_rfl)) (fun _ _ _ h => h) (Or.inl ⟨by rfl, ?_⟩) ?_ ?_
           rotate_left
           ·intro w'
            go_simp
            with_reducible rfl
           rotate_left
           ·simp only [Act.put, List.setIfInBounds_toArray, List.set_cons_zero, List.set_cons_succ, zo, zp]
            rfl
           refine zr (i := 7) (N := some 19) (v := ?_) (a' := ?_) #[true, true, true, true, true, true, true, true, false, false, false, false, false, false, false, false, false, false] rfl rfl (zn HT_.out (by kernel_rfl)) (fun _ _ _ h => h) (Or.inl ⟨by rfl, ?_⟩) ?_ ?_
           rotate_left
           ·intro w'
            go_simp
            with_reducible rfl
           rotate_left
           ·simp only [Act.put, List.setIfInBounds_toArray, List.set_cons_zero, List.set_cons_succ, zo, zp]
            rfl
           refine zr (i := 9) (N := some 21) (v := ?_) (a' := ?_) #[true, true, true, true, true, true, true, true, false, true, false, false, false, false, false, false, false, false] rfl rfl (zn HT_.out (by kernel_rfl)) (fun _ _ _ h => h) (Or.inl ⟨by rfl, ?_⟩) ?_ ?_
           rotate_left
           ·intro w'
            go_simp
            with_reducible rfl
           rotate_left
           ·simp only [Act.put, List.setIfInBounds_toArray, List.set_cons_zero, List.set_cons_succ, zo, zp]
            rfl
           refine zr (i := 10) (N := some 22) (v := ?_) (a' := ?_) #[true, true, true, true, true, true, true, true, false, true, true, false, false, false, false, false, false, false] rfl rfl (zn HT_.out (by kernel_rfl)) (fun _ _ _ h => h) (Or.inl ⟨by rfl, ?_⟩) ?_ ?_
           rotate_left
           ·intro w'
            go_simp
            with_reducible rfl
           rotate_left
           ·simp only [Act.put, List.setIfInBounds_toArray, List.set_cons_zero, List.set_cons_succ, zo, zp]
            rfl
           refine zr (i := 11) (N := some 23) (v := ?_) (a' := ?_) #[true, true, true, true, true, true, true, true, false, true, true, true, false, false, false, false, false, false] rfl rfl (zn HT_.out (by kernel_rfl)) (fun _ _ _ h => h) (Or.inl ⟨by rfl, ?_⟩) ?_ ?_
           rotate_left
           ·intro w'
            go_simp
            with_reducible rfl
           rotate_left
           ·simp only [Act.put, List.setIfInBounds_toArray, List.set_cons_zero, List.set_cons_succ, zo, zp]
            rfl
           refine zr (i := 12) (N := some 24) (v := ?_) (a' := ?_) #[true, true, true, true, true, true, true, true, false, true, true, true, true, false, false, false, false, false] rfl rfl (zn HT_.out (by kernel_rfl)) (fun _ _ _ h => h) (Or.inl ⟨by rfl, ?_⟩) ?_ ?_
           rotate_left
           ·intro w'
            go_simp
            with_reducible rfl
           rotate_left
           ·simp only [Act.put, List.setIfInBounds_toArray, List.set_cons_zero, List.set_cons_succ, zo, zp]
            rfl
           refine zr (i := 13) (N := some 25) (v := ?_) (a' := ?_) #[true, true, true, true, true, true, true, true, false, true, true, true, true, true, false, false, false, false] rfl rfl (zn HT_.out (by kernel_rfl)) (fun _ _ _ h => h) (Or.inl ⟨by rfl, ?_⟩) ?_ ?_
           rotate_left
           ·intro w'
            go_simp
            with_reducible rfl
           rotate_left
           ·simp only [Act.put, List.setIfInBounds_toArray, List.set_cons_zero, List.set_cons_succ, zo, zp]
            rfl
           refine take_ (i := 8) (N := some 20) (v := ?_) (a' := ?_) #[true, true, true, true, true, true, true, true, true, true, true, true, true, true, false, false, false, false] rfl rfl (zA HT_.out HW_.out (by kernel_rfl)) (fun _ _ _ h => h) (Or.inl ⟨by rfl, ?_⟩) hHeld ?_ ?_
           rotate_left
           ·rintro w' ⟨s0, s1, s2, s3, s4, s5, s6, s7, s8, s9, s10, s11, s12, s13⟩
            go_simp
            with_reducible rfl
           rotate_left
           ·simp only [Act.put, List.setIfInBounds_toArray, List.set_cons_zero, List.set_cons_succ, zo, zp]
            rfl
           refine take_ (i := 14) (N := some 26) (v := ?_) (a' := ?_) #[true, true, true, true, true, true, true, true, true, true, true, true, true, true, true, false, false, false] rfl rfl (zA HT_.out HW_.out (by kernel_rfl)) (fun _ _ _ h => h) (Or.inl ⟨by rfl, ?_⟩) hHeld ?_ ?_
           rotate_left
           ·rintro w' ⟨s0, s1, s2, s3, s4, s5, s6, s7, s8, s9, s10, s11, s12, s13⟩
            go_simp
            with_reducible rfl
           rotate_left
           ·simp only [Act.put, List.setIfInBounds_toArray, List.set_cons_zero, List.set_cons_succ, zo, zp]
            rfl
           refine zr (i := 15) (N := some 27) (v := ?_) (a' := ?_) #[true, true, true, true, true, true, true, true, true, true, true, true, true, true, true, true, false, false] rfl rfl (zn HT_.out (by kernel_rfl)) (fun _ _ _ h => h) (Or.inl ⟨by rfl, ?_⟩) ?_ ?_
           rotate_left
           ·intro w'
            go_simp
            with_reducible rfl
           rotate_left
           ·simp only [Act.put, List.setIfInBounds_toArray, List.set_cons_zero, List.set_cons_succ, zo, zp]
            rfl
           refine zr (i := 16) (N := some 28) (v := ?_) (a' := ?_) #[true, true, true, true, true, true, true, true, true, true, true, true, true, true, true, true, true, false] rfl rfl (zn HT_.out (by kernel_rfl)) (fun _ _ _ h => h) (Or.inl ⟨by rfl, ?_⟩) ?_ ?_
           rotate_left
           ·intro w'
            go_simp
            with_reducible rfl
           rotate_left
           ·simp only [Act.put, List.setIfInBounds_toArray, List.set_cons_zero, List.set_cons_succ, zo, zp]
            rfl
           refine zr (i := 17) (N := some 29) (v := ?_) (a' := ?_) #[true, true, true, true, true, true, true, true, true, true, true, true, true, true, true, true, true, true] rfl rfl (zn HT_.out (by kernel_rfl)) (fun _ _ _ h => h) (Or.inl ⟨by rfl, ?_⟩) ?_ ?_
           rotate_left
           ·intro w'
            go_simp
            with_reducible rfl
           rotate_left
           ·simp only [Act.put, List.setIfInBounds_toArray, List.set_cons_zero, List.set_cons_succ, zo, zp]
            rfl
           refine done_ (done_of HT_.out (by kernel_rfl)) ?_
           try go_wp2
           go_ret
           exact ⟨by first | rfl | (simp [errW_none, errW_some] <;> rfl) | (simp only [← hji8]; first | rfl | (simp [errW_none, errW_some] <;> rfl)) | (simp [*, errW_none, errW_some] <;> rfl), by repeat (first | (with_reducible first | exact HB.out | apply ze | apply zc | apply zd | refine zj ?_ zD.out) | exact HB.out)⟩
         ·rw [if_neg c10] at H
          exact absurd H (by simp)
        ·rw [if_neg c9] at H
         exact absurd H (by simp)
       ·rw [if_neg c7] at H
        have c7b0 : decide (0 < x7_1) = false := decide_eq_false c7
        clear c7
        have H' := Aside0.mk H
        clear H
        have p183 : 0 ≤ (x7_1 : Int) := of_decide_eq_true (by first | (with_reducible assumption) | assumption)
        have q183 : x7_1 < (l0.length : Int) := of_decide_eq_true (by first | (with_reducible assumption) | assumption)
        obtain ⟨ad183, e183, hx183_0, hx183_1, hx183_2, hx183_3, hx183_4, hx183_5, hx183_6⟩ := at_T92 HR0.out x7_1 p183 q183
        cases e183
        replace hx183_0 := zb HB.out hx183_0
        replace hx183_1 := zb HB.out hx183_1
        replace hx183_2 := zb HB.out hx183_2
        replace hx183_3 := zb HB.out hx183_3
        replace hx183_4 := zb HB.out hx183_4
        replace hx183_5 := zb HB.out hx183_5
        replace hx183_6 := zb HB.out hx183_6
        replace p183 := eq_true p183
        replace q183 := eq_true q183
        try go_wp2_with (first | ((with_reducible refine zv (N := 4) rfl ?_); refine zw ?hg (N := 4) ?hd (cs := #[.string (⟨#[]⟩ : ByteArray), .string (⟨#[]⟩ : ByteArray), .int .i64 0, .int .i64 0, .int .i64 0, .int .i64 0, .int .i64 0]) (t := 92) ?hr ?_; (case hd => rfl); (case hg => rfl); (case hr => first | (go_simp; done) | (go_simp; rfl)); intro zB hg w22 hbox hb; have n0_ := Aside0.mk (zl (by repeat (first | (with_reducible first | exact HB.out | apply ze | apply zc | apply zd) | exact HB.out)) hb); have n1_ := Aside0.mk (hbox); have n2_ := Aside0.mk ((by rw [hg]; exact (zm (by repeat (first | (with_reducible first | exact HB.out | apply ze | apply zc | apply zd) | exact HB.out))) : w.heap.size ≤ zB)); have n3_ := Aside0.mk ((by rw [hg]; exact (zm (by repeat (first | (with_reducible first | exact HB.out | apply ze | apply zc | apply zd) | exact HB.out))) : w.heap.size ≤ zB)); clear HB; have HB := n0_; have zC := n1_; have GW184 := n2_; have zD := n3_; clear n0_ n1_ n2_ n3_; clear hb hbox hg; have zgb : w22.cell? ⟨zB, 0, none⟩ = some (.string (⟨#[]⟩ : ByteArray)) := (zg zC.out 0).trans rfl; have zhb : w22.cell? ⟨zB, 1, none⟩ = some (.string (⟨#[]⟩ : ByteArray)) := (zg zC.out 1).trans rfl; have zib : w22.cell? ⟨zB, 2, none⟩ = some (.int .i64 0) := (zg zC.out 2).trans rfl; have zjb : w22.cell? ⟨zB, 3, none⟩ = some (.int .i64 0) := (zg zC.out 3).trans rfl; have zkb : w22.cell? ⟨zB, 4, none⟩ = some (.int .i64 0) := (zg zC.out 4).trans rfl; have zlb : w22.cell? ⟨zB, 5, none⟩ = some (.int .i64 0) := (zg zC.out 5).trans rfl; have zmb : w22.cell? ⟨zB, 6, none⟩ = some (.int .i64 0) := (zg zC.out 6).trans rfl; have znb := zf zC.out 0; have zob := zf zC.out 1; have zpb := zf zC.out 2; have zqb := zf zC.out 3; have zrb := zf zC.out 4; have zsb := zf zC.out 5; have ztb := zf zC.out 6))
        have n0_ : Aside0 ((((((((w22.setCell ⟨zB, 0, none⟩ (.string ((rd_T92 l0 x7_1).f0))).setCell ⟨zB, 1, none⟩ (.string ((rd_T92 l0 x7_1).f1))).setCell ⟨zB, 2, none⟩ (.int .i64 ((rd_T92 l0 x7_1).f2))).setCell ⟨zB, 3, none⟩ (.int .i64 ((rd_T92 l0 x7_1).f3))).setCell ⟨zB, 4, none⟩ (.int .i64 ((rd_T92 l0 x7_1).f4))).setCell ⟨zB, 5, none⟩ (.int .i64 ((rd_T92 l0 x7_1).f5))).setCell ⟨zB, 6, none⟩ (.int .i64 ((rd_T92 l0 x7_1).f6))).heap[zB]? = some (.cells #[.string ((rd_T92 l0 x7_1).f0), .string ((rd_T92 l0 x7_1).f1), .int .i64 ((rd_T92 l0 x7_1).f2), .int .i64 ((rd_T92 l0 x7_1).f3), .int .i64 ((rd_T92 l0 x7_1).f4), .int .i64 ((rd_T92 l0 x7_1).f5), .int .i64 ((rd_T92 l0 x7_1).f6)] 92 (0, 0))) := ⟨by (with_reducible repeat (first | refine zi ?_ _ | refine zk ?_ | refine zh ?_ _)); refine zx (cs := #[.string ((rd_T92 l0 x7_1).f0), .string ((rd_T92 l0 x7_1).f1), .int .i64 ((rd_T92 l0 x7_1).f2), .int .i64 ((rd_T92 l0 x7_1).f3), .int .i64 ((rd_T92 l0 x7_1).f4), .int .i64 ((rd_T92 l0 x7_1).f5), .int .i64 0]) ?_ 6 _ rfl; (with_reducible repeat (first | refine zi ?_ _ | refine zk ?_ | refine zh ?_ _)); refine zx (cs := #[.string ((rd_T92 l0 x7_1).f0), .string ((rd_T92 l0 x7_1).f1), .int .i64 ((rd_T92 l0 x7_1).f2), .int .i64 ((rd_T92 l0 x7_1).f3), .int .i64 ((rd_T92 l0 x7_1).f4), .int .i64 0, .int .i64 0]) ?_ 5 _ rfl; (with_reducible repeat (first | refine zi ?_ _ | refine zk ?_ | refine zh ?_ _)); refine zx (cs := #[.string ((rd_T92 l0 x7_1).f0), .string ((rd_T92 l0 x7_1).f1), .int .i64 ((rd_T92 l0 x7_1).f2), .int .i64 ((rd_T92 l0 x7_1).f3), .int .i64 0, .int .i64 0, .int .i64 0]) ?_ 4 _ rfl; (with_reducible repeat (first | refine zi ?_ _ | refine zk ?_ | refine zh ?_ _)); refine zx (cs := #[.string ((rd_T92 l0 x7_1).f0), .string ((rd_T92 l0 x7_1).f1), .int .i64 ((rd_T92 l0 x7_1).f2), .int .i64 0, .int .i64 0, .int .i64 0, .int .i64 0]) ?_ 3 _ rfl; (with_reducible repeat (first | refine zi ?_ _ | refine zk ?_ | refine zh ?_ _)); refine zx (cs := #[.string ((rd_T92 l0 x7_1).f0), .string ((rd_T92 l0 x7_1).f1), .int .i64 0, .int .i64 0, .int .i64 0, .int .i64 0, .int .i64 0]) ?_ 2 _ rfl; (with_reducible repeat (first | refine zi ?_ _ | refine zk ?_ | refine zh ?_ _)); refine zx (cs := #[.string ((rd_T92 l0 x7_1).f0), .string (⟨#[]⟩ : ByteArray), .int .i64 0, .int .i64 0, .int .i64 0, .int .i64 0, .int .i64 0]) ?_ 1 _ rfl; (with_reducible repeat (first | refine zi ?_ _ | refine zk ?_ | refine zh ?_ _)); refine zx (cs := #[.string (⟨#[]⟩ : ByteArray), .string (⟨#[]⟩ : ByteArray), .int .i64 0, .int .i64 0, .int .i64 0, .int .i64 0, .int .i64 0]) ?_ 0 _ rfl; (with_reducible repeat (first | refine zi ?_ _ | refine zk ?_ | refine zh ?_ _)); exact zC.out⟩
        have n1_ : Aside0 (Below w.heap.size w (((((((w22.setCell ⟨zB, 0, none⟩ (.string ((rd_T92 l0 x7_1).f0))).setCell ⟨zB, 1, none⟩ (.string ((rd_T92 l0 x7_1).f1))).setCell ⟨zB, 2, none⟩ (.int .i64 ((rd_T92 l0 x7_1).f2))).setCell ⟨zB, 3, none⟩ (.int .i64 ((rd_T92 l0 x7_1).f3))).setCell ⟨zB, 4, none⟩ (.int .i64 ((rd_T92 l0 x7_1).f4))).setCell ⟨zB, 5, none⟩ (.int .i64 ((rd_T92 l0 x7_1).f5))).setCell ⟨zB, 6, none⟩ (.int .i64 ((rd_T92 l0 x7_1).f6)))) := ⟨by repeat (first | (with_reducible first | exact HB.out | apply ze | apply zc | apply zd | refine zj ?_ zD.out) | exact HB.out)⟩
        (try clear zC)
        (try clear HB)
        generalize (((((((w22.setCell ⟨zB, 0, none⟩ (.string ((rd_T92 l0 x7_1).f0))).setCell ⟨zB, 1, none⟩ (.string ((rd_T92 l0 x7_1).f1))).setCell ⟨zB, 2, none⟩ (.int .i64 ((rd_T92 l0 x7_1).f2))).setCell ⟨zB, 3, none⟩ (.int .i64 ((rd_T92 l0 x7_1).f3))).setCell ⟨zB, 4, none⟩ (.int .i64 ((rd_T92 l0 x7_1).f4))).setCell ⟨zB, 5, none⟩ (.int .i64 ((rd_T92 l0 x7_1).f5))).setCell ⟨zB, 6, none⟩ (.int .i64 ((rd_T92 l0 x7_1).f6))) = w24 at n0_ n1_ ⊢
        have zC := n0_
        have HB := n1_
        clear n0_ n1_
        have n0_ := Aside0.mk (zk zC.out)
        have n1_ := Aside0.mk (zd HB.out)
        clear zC
        clear HB
        have zC := n0_
        have HB := n1_
        clear n0_ n1_
        refine start_ (n := 18) (S := fun w' => w'.cell? ⟨zB, 0, none⟩ = some (.string ((rd_T92 l0 x7_1).f0)) ∧ w'.cell? ⟨zB, 1, none⟩ = some (.string ((rd_T92 l0 x7_1).f1)) ∧ w'.cell? ⟨zB, 2, none⟩ = some (.int .i64 ((rd_T92 l0 x7_1).f2)) ∧ w'.cell? ⟨zB, 3, none⟩ = some (.int .i64 ((rd_T92 l0 x7_1).f3)) ∧ w'.cell? ⟨zB, 4, none⟩ = some (.int .i64 ((rd_T92 l0 x7_1).f4)) ∧ w'.cell? ⟨zB, 5, none⟩ = some (.int .i64 ((rd_T92 l0 x7_1).f5)) ∧ w'.cell? ⟨zB, 6, none⟩ = some (.int .i64 ((rd_T92 l0 x7_1).f6))) (ds := []) #[false, false, false, false, false, false, false, false, false, false, false, false, false, false, false, false, false, false] (by kernel_rfl) rfl rfl ⟨(zg zC.out 0).trans rfl, (zg zC.out 1).trans rfl, (zg zC.out 2).trans rfl, (zg zC.out 3).trans rfl, (zg zC.out 4).trans rfl, (zg zC.out 5).trans rfl, (zg zC.out 6).trans rfl⟩ (fun hHeld => ?_); refine with_tabW impl_nodesOk.tab4 impl_nodesOk.bits4 (fun HT_ HW_ => ?_)
        generalize w24.drew = w25 at zC HB hHeld ⊢
        refine take_ (i := 0) (N := some 12) (v := ?_) (a' := ?_) #[true, false, false, false, false, false, false, false, false, false, false, false, false, false, false, false, false, false] rfl rfl (zA HT_.out HW_.out (by kernel_rfl)) (fun _ _ _ h => h) (Or.inl ⟨by rfl, ?_⟩) hHeld ?_ ?_
        rotate_left
        ·rintro w' ⟨s0, s1, s2, s3, s4, s5, s6⟩
         go_simp
         with_reducible rfl
        rotate_left
        ·simp only [Act.put, List.setIfInBounds_toArray, List.set_cons_zero, List.set_cons_succ, zo, zp]
         rfl
        refine one_ (i := 1) (N := some 13) #[true, true, false, false, false, false, false, false, false, false, false, false, false, false, false, false, false, false] rfl rfl (one_of HT_.out (by kernel_rfl)) (by decide) (fun K hK => ?_)
        refine goes_ Tryd.func137 (by kernel_rfl) rfl #[.agg #[.string ((rd_T92 l0 x7_1).f0), .string ((rd_T92 l0 x7_1).f1), .int .i64 ((rd_T92 l0 x7_1).f2), .int .i64 ((rd_T92 l0 x7_1).f3), .int .i64 ((rd_T92 l0 x7_1).f4), .int .i64 ((rd_T92 l0 x7_1).f5), .int .i64 ((rd_T92 l0 x7_1).f6)]] (by rfl) rfl rfl (by (try simp only [List.map_toArray, List.map_cons, List.map_nil]); first | done | rfl | (simp only [List.length_drop, List.length_take]; rfl)) ?_
        with_reducible refine (impl_Node_valid.calls k1 ((rd_T92 l0 x7_1).f0) ((rd_T92 l0 x7_1).f1) ((rd_T92 l0 x7_1).f2) ((rd_T92 l0 x7_1).f3) ((rd_T92 l0 x7_1).f4) ((rd_T92 l0 x7_1).f5) ((rd_T92 l0 x7_1).f6) true _ A5.out ?globMAX_).mono ?_; (case globMAX_ => exact Go.Proofs.YtjoafknckmoojaaDoorH.GFMAX.below HGMAX_.out (by repeat (first | (with_reducible first | exact HB.out | exact Below.refl _ _ | apply ze | apply zc | apply zd | refine zj ?_ (Aside0.out (by assumption))) | exact HB.out)))
        rintro e w26 ⟨rfl, hb⟩
        refine ⟨_, rfl, ?_⟩
        have n0_ := Aside0.mk (zt (g := zB) (o := .cells #[.string ((rd_T92 l0 x7_1).f0), .string ((rd_T92 l0 x7_1).f1), .int .i64 ((rd_T92 l0 x7_1).f2), .int .i64 ((rd_T92 l0 x7_1).f3), .int .i64 ((rd_T92 l0 x7_1).f4), .int .i64 ((rd_T92 l0 x7_1).f5), .int .i64 ((rd_T92 l0 x7_1).f6)] 92 (0, 0)) (by (with_reducible repeat (first | refine zi ?_ _ | refine zk ?_ | refine zh ?_ _)); exact zC.out) hb)
        have n1_ := Aside0.mk (zl (by repeat (first | (with_reducible first | exact HB.out | apply ze | apply zc | apply zd | refine zj ?_ zD.out) | exact HB.out)) hb)
        clear zC
        clear HB
        have zC := n0_
        have HB := n1_
        clear n0_ n1_
        (try clear hb)
        (try clear hb2)
        (try clear hk)
        (try clear hi)
        refine hK.out _ _ ⟨(zg zC.out 0).trans rfl, (zg zC.out 1).trans rfl, (zg zC.out 2).trans rfl, (zg zC.out 3).trans rfl, (zg zC.out 4).trans rfl, (zg zC.out 5).trans rfl, (zg zC.out 6).trans rfl⟩ (fun hHeld => ?_)
        clear hK K
        refine norm_ (a' := ?_) ?_ ?_
        rotate_left
        ·show Act.put _ (some 13) _ = _
         simp only [Act.put, List.setIfInBounds_toArray, List.set_cons_zero, List.set_cons_succ, zo, zp]
         rfl
        refine zr (i := 2) (N := some 14) (v := ?_) (a' := ?_) #[true, true, true, false, false, false, false, false, false, false, false, false, false, false, false, false, false, false] rfl rfl (zn HT_.out (by kernel_rfl)) (fun _ _ _ h => h) (Or.inl ⟨by rfl, ?_⟩) ?_ ?_
        rotate_left
        ·intro w'
         go_simp
         with_reducible rfl
        rotate_left
        ·simp only [Act.put, List.setIfInBounds_toArray, List.set_cons_zero, List.set_cons_succ, zo, zp]
         rfl
        refine zr (i := 3) (N := some 15) (v := ?_) (a' := ?_) #[true, true, true, true, false, false, false, false, false, false, false, false, false, false, false, false, false, false] rfl rfl (zn HT_.out (by kernel_rfl)) (fun _ _ _ h => h) (Or.inl ⟨by rfl, ?_⟩) ?_ ?_
        rotate_left
        ·intro w'
         go_simp
         with_reducible rfl
        rotate_left
        ·simp only [Act.put, List.setIfInBounds_toArray, List.set_cons_zero, List.set_cons_succ, zo, zp]
         rfl
        refine zr (i := 4) (N := some 16) (v := ?_) (a' := ?_) #[true, true, true, true, true, false, false, false, false, false, false, false, false, false, false, false, false, false] rfl rfl (zn HT_.out (by kernel_rfl)) (fun _ _ _ h => h) (Or.inl ⟨by rfl, ?_⟩) ?_ ?_
        rotate_left
        ·intro w'
         go_simp
         with_reducible rfl
        rotate_left
        ·simp only [Act.put, List.setIfInBounds_toArray, List.set_cons_zero, List.set_cons_succ, zo, zp]
         rfl
        refine zr (i := 5) (N := some 17) (v := ?_) (a' := ?_) #[true, true, true, true, true, true, false, false, false, false, false, false, false, false, false, false, false, false] rfl rfl (zn HT_.out (by kernel_rfl)) (fun _ _ _ h => h) (Or.inl ⟨by rfl, ?_⟩) ?_ ?_
        rotate_left
        ·intro w'
         go_simp
         with_reducible rfl
        rotate_left
        ·simp only [Act.put, List.setIfInBounds_toArray, List.set_cons_zero, List.set_cons_succ, zo, zp]
         rfl
        refine zr (i := 6) (N := some 18) (v := ?_) (a' := ?_) #[true, true, true, true, true, true, true, false, false, false, false, false, false, false, false, false, false, false] rfl rfl (zn HT_.out (by kernel_rfl)) (fun _ _ _ h => h) (Or.inl ⟨by rfl, ?_⟩) ?_ ?_
        rotate_left
        ·intro w'
         go_simp
         with_reducible rfl
        rotate_left
        ·simp only [Act.put, List.setIfInBounds_toArray, List.set_cons_zero, List.set_cons_succ, zo, zp]
         rfl
        refine zr (i := 7) (N := some 19) (v := undef) (a' := ?_) #[true, true, true, true, true, true, true, true, false, false, false, false, false, false, false, false, false, false] rfl rfl (zn HT_.out (by kernel_rfl)) (fun _ _ _ h => h) (Or.inr ⟨by rfl, rfl⟩) ?_ ?_
        rotate_left
        ·simp only [Act.put, List.setIfInBounds_toArray, List.set_cons_zero, List.set_cons_succ, zo, zp]
         rfl
        refine zr (i := 8) (N := some 20) (v := undef) (a' := ?_) #[true, true, true, true, true, true, true, true, true, false, false, false, false, false, false, false, false, false] rfl rfl (zn HT_.out (by kernel_rfl)) (fun _ _ _ h => h) (Or.inr ⟨by rfl, rfl⟩) ?_ ?_
        rotate_left
        ·simp only [Act.put, List.setIfInBounds_toArray, List.set_cons_zero, List.set_cons_succ, zo, zp]
         rfl
        refine zr (i := 9) (N := some 21) (v := undef) (a' := ?_) #[true, true, true, true, true, true, true, true, true, true, false, false, false, false, false, false, false, false] rfl rfl (zn HT_.out (by kernel_rfl)) (fun _ _ _ h => h) (Or.inr ⟨by rfl, rfl⟩) ?_ ?_
        rotate_left
        ·simp only [Act.put, List.setIfInBounds_toArray, List.set_cons_zero, List.set_cons_succ, zo, zp]
         rfl
        refine zr (i := 10) (N := some 22) (v := undef) (a' := ?_) #[true, true, true, true, true, true, true, true, true, true, true, false, false, false, false, false, false, false] rfl rfl (zn HT_.out (by kernel_rfl)) (fun _ _ _ h => h) (Or.inr ⟨by rfl, rfl⟩) ?_ ?_
        rotate_left
        ·simp only [Act.put, List.setIfInBounds_toArray, List.set_cons_zero, List.set_cons_succ, zo, zp]
         rfl
        refine zr (i := 11) (N := some 23) (v := undef) (a' := ?_) #[true, true, true, true, true, true, true, true, true, true, true, true, false, false, false, false, false, false] rfl rfl (zn HT_.out (by kernel_rfl)) (fun _ _ _ h => h) (Or.inr ⟨by rfl, rfl⟩) ?_ ?_
        rotate_left
        ·simp only [Act.put, List.setIfInBounds_toArray, List.set_cons_zero, List.set_cons_succ, zo, zp]
         rfl
        refine zr (i := 12) (N := some 24) (v := undef) (a' := ?_) #[true, true, true, true, true, true, true, true, true, true, true, true, true, false, false, false, false, false] rfl rfl (zn HT_.out (by kernel_rfl)) (fun _ _ _ h => h) (Or.inr ⟨by rfl, rfl⟩) ?_ ?_
        rotate_left
        ·simp only [Act.put, List.setIfInBounds_toArray, List.set_cons_zero, List.set_cons_succ, zo, zp]
         rfl
        refine zr (i := 13) (N := some 25) (v := undef) (a' := ?_) #[true, true, true, true, true, true, true, true, true, true, true, true, true, true, false, false, false, false] rfl rfl (zn HT_.out (by kernel_rfl)) (fun _ _ _ h => h) (Or.inr ⟨by rfl, rfl⟩) ?_ ?_
        rotate_left
        ·simp only [Act.put, List.setIfInBounds_toArray, List.set_cons_zero, List.set_cons_succ, zo, zp]
         rfl
        refine zr (i := 14) (N := some 26) (v := undef) (a' := ?_) #[true, true, true, true, true, true, true, true, true, true, true, true, true, true, true, false, false, false] rfl rfl (zn HT_.out (by kernel_rfl)) (fun _ _ _ h => h) (Or.inr ⟨by rfl, rfl⟩) ?_ ?_
        rotate_left
        ·simp only [Act.put, List.setIfInBounds_toArray, List.set_cons_zero, List.set_cons_succ, zo, zp]
         rfl
        refine zr (i := 15) (N := some 27) (v := undef) (a' := ?_) #[true, true, true, true, true, true, true, true, true, true, true, true, true, true, true, true, false, false] rfl rfl (zn HT_.out (by kernel_rfl)) (fun _ _ _ h => h) (Or.inr ⟨by rfl, rfl⟩) ?_ ?_
        rotate_left
        ·simp only [Act.put, List.setIfInBounds_toArray, List.set_cons_zero, List.set_cons_succ, zo, zp]
         rfl
        refine zr (i := 16) (N := some 28) (v := ?_) (a' := ?_) #[true, true, true, true, true, true, true, true, true, true, true, true, true, true, true, true, true, false] rfl rfl (zn HT_.out (by kernel_rfl)) (fun _ _ _ h => h) (Or.inl ⟨by rfl, ?_⟩) ?_ ?_
        rotate_left
        ·intro w'
         go_simp
         with_reducible rfl
        rotate_left
        ·simp only [Act.put, List.setIfInBounds_toArray, List.set_cons_zero, List.set_cons_succ, zo, zp]
         rfl
        refine zr (i := 17) (N := some 29) (v := ?_) (a' := ?_) #[true, true, true, true, true, true, true, true, true, true, true, true, true, true, true, true, true, true] rfl rfl (zn HT_.out (by kernel_rfl)) (fun _ _ _ h => h) (Or.inl ⟨by rfl, ?_⟩) ?_ ?_
        rotate_left
        ·intro w'
         go_simp
         with_reducible rfl
        rotate_left
        ·simp only [Act.put, List.setIfInBounds_toArray, List.set_cons_zero, List.set_cons_succ, zo, zp]
         rfl
        refine done_ (done_of HT_.out (by kernel_rfl)) ?_
        try go_wp2
        go_roundg k1
        case measure => have := HK1.out; omega
        case rel => exact ⟨(wrap64 (x7_1 + 1)), (by first | rfl | (simp; done) | (simp [*]; done)), H', ⟨by have := HK1.out; omega⟩, ⟨by repeat (first | (with_reducible first | exact HB.out | apply ze | apply zc | apply zd | refine zj ?_ zD.out) | exact HB.out)⟩⟩
      ·replace c6 := Bool.eq_false_iff.mpr c6
       subst c6
       have H1 : (some false) = some r := by rw [if_neg (show ¬ (false = true) by decide)] at H; exact H
       clear H
       have H := H1
       clear H1
       obtain rfl := Option.some.inj H
       have p183 : 0 ≤ (x7_1 : Int) := of_decide_eq_true (by first | (with_reducible assumption) | assumption)
       have q183 : x7_1 < (l0.length : Int) := of_decide_eq_true (by first | (with_reducible assumption) | assumption)
       obtain ⟨ad183, e183, hx183_0, hx183_1, hx183_2, hx183_3, hx183_4, hx183_5, hx183_6⟩ := at_T92 HR0.out x7_1 p183 q183
       cases e183
       replace hx183_0 := zb HB.out hx183_0
       replace hx183_1 := zb HB.out hx183_1
       replace hx183_2 := zb HB.out hx183_2
       replace hx183_3 := zb HB.out hx183_3
       replace hx183_4 := zb HB.out hx183_4
       replace hx183_5 := zb HB.out hx183_5
       replace hx183_6 := zb HB.out hx183_6
       replace p183 := eq_true p183
       replace q183 := eq_true q183
       try go_wp2_with (first | ((with_reducible refine zv (N := 4) rfl ?_); refine zw ?hg (N := 4) ?hd (cs := #[.string (⟨#[]⟩ : ByteArray), .string (⟨#[]⟩ : ByteArray), .int .i64 0, .int .i64 0, .int .i64 0, .int .i64 0, .int .i64 0]) (t := 92) ?hr ?_; (case hd => rfl); (case hg => rfl); (case hr => first | (go_simp; done) | (go_simp; rfl)); intro zB hg w27 hbox hb; have n0_ := Aside0.mk (zl (by repeat (first | (with_reducible first | exact HB.out | apply ze | apply zc | apply zd) | exact HB.out)) hb); have n1_ := Aside0.mk (hbox); have n2_ := Aside0.mk ((by rw [hg]; exact (zm (by repeat (first | (with_reducible first | exact HB.out | apply ze | apply zc | apply zd) | exact HB.out))) : w.heap.size ≤ zB)); have n3_ := Aside0.mk ((by rw [hg]; exact (zm (by repeat (first | (with_reducible first | exact HB.out | apply ze | apply zc | apply zd) | exact HB.out))) : w.heap.size ≤ zB)); clear HB; have HB := n0_; have zC := n1_; have GW184 := n2_; have zD := n3_; clear n0_ n1_ n2_ n3_; clear hb hbox hg; have zub : w27.cell? ⟨zB, 0, none⟩ = some (.string (⟨#[]⟩ : ByteArray)) := (zg zC.out 0).trans rfl; have zvb : w27.cell? ⟨zB, 1, none⟩ = some (.string (⟨#[]⟩ : ByteArray)) := (zg zC.out 1).trans rfl; have zwb : w27.cell? ⟨zB, 2, none⟩ = some (.int .i64 0) := (zg zC.out 2).trans rfl; have zxb : w27.cell? ⟨zB, 3, none⟩ = some (.int .i64 0) := (zg zC.out 3).trans rfl; have zyb : w27.cell? ⟨zB, 4, none⟩ = some (.int .i64 0) := (zg zC.out 4).trans rfl; have zzb : w27.cell? ⟨zB, 5, none⟩ = some (.int .i64 0) := (zg zC.out 5).trans rfl; have zAb : w27.cell? ⟨zB, 6, none⟩ = some (.int .i64 0) := (zg zC.out 6).trans rfl; have zBb := zf zC.out 0; have zCb := zf zC.out 1; have zDb := zf zC.out 2; have zEb := zf zC.out 3; have zFb := zf zC.out 4; have zGb := zf zC.out 5; have zHb := zf zC.out 6))
       have n0_ : Aside0 ((((((((w27.setCell ⟨zB, 0, none⟩ (.string ((rd_T92 l0 x7_1).f0))).setCell ⟨zB, 1, none⟩ (.string ((rd_T92 l0 x7_1).f1))).setCell ⟨zB, 2, none⟩ (.int .i64 ((rd_T92 l0 x7_1).f2))).setCell ⟨zB, 3, none⟩ (.int .i64 ((rd_T92 l0 x7_1).f3))).setCell ⟨zB, 4, none⟩ (.int .i64 ((rd_T92 l0 x7_1).f4))).setCell ⟨zB, 5, none⟩ (.int .i64 ((rd_T92 l0 x7_1).f5))).setCell ⟨zB, 6, none⟩ (.int .i64 ((rd_T92 l0 x7_1).f6))).heap[zB]? = some (.cells #[.string ((rd_T92 l0 x7_1).f0), .string ((rd_T92 l0 x7_1).f1), .int .i64 ((rd_T92 l0 x7_1).f2), .int .i64 ((rd_T92 l0 x7_1).f3), .int .i64 ((rd_T92 l0 x7_1).f4), .int .i64 ((rd_T92 l0 x7_1).f5), .int .i64 ((rd_T92 l0 x7_1).f6)] 92 (0, 0))) := ⟨by (with_reducible repeat (first | refine zi ?_ _ | refine zk ?_ | refine zh ?_ _)); refine zx (cs := #[.string ((rd_T92 l0 x7_1).f0), .string ((rd_T92 l0 x7_1).f1), .int .i64 ((rd_T92 l0 x7_1).f2), .int .i64 ((rd_T92 l0 x7_1).f3), .int .i64 ((rd_T92 l0 x7_1).f4), .int .i64 ((rd_T92 l0 x7_1).f5), .int .i64 0]) ?_ 6 _ rfl; (with_reducible repeat (first | refine zi ?_ _ | refine zk ?_ | refine zh ?_ _)); refine zx (cs := #[.string ((rd_T92 l0 x7_1).f0), .string ((rd_T92 l0 x7_1).f1), .int .i64 ((rd_T92 l0 x7_1).f2), .int .i64 ((rd_T92 l0 x7_1).f3), .int .i64 ((rd_T92 l0 x7_1).f4), .int .i64 0, .int .i64 0]) ?_ 5 _ rfl; (with_reducible repeat (first | refine zi ?_ _ | refine zk ?_ | refine zh ?_ _)); refine zx (cs := #[.string ((rd_T92 l0 x7_1).f0), .string ((rd_T92 l0 x7_1).f1), .int .i64 ((rd_T92 l0 x7_1).f2), .int .i64 ((rd_T92 l0 x7_1).f3), .int .i64 0, .int .i64 0, .int .i64 0]) ?_ 4 _ rfl; (with_reducible repeat (first | refine zi ?_ _ | refine zk ?_ | refine zh ?_ _)); refine zx (cs := #[.string ((rd_T92 l0 x7_1).f0), .string ((rd_T92 l0 x7_1).f1), .int .i64 ((rd_T92 l0 x7_1).f2), .int .i64 0, .int .i64 0, .int .i64 0, .int .i64 0]) ?_ 3 _ rfl; (with_reducible repeat (first | refine zi ?_ _ | refine zk ?_ | refine zh ?_ _)); refine zx (cs := #[.string ((rd_T92 l0 x7_1).f0), .string ((rd_T92 l0 x7_1).f1), .int .i64 0, .int .i64 0, .int .i64 0, .int .i64 0, .int .i64 0]) ?_ 2 _ rfl; (with_reducible repeat (first | refine zi ?_ _ | refine zk ?_ | refine zh ?_ _)); refine zx (cs := #[.string ((rd_T92 l0 x7_1).f0), .string (⟨#[]⟩ : ByteArray), .int .i64 0, .int .i64 0, .int .i64 0, .int .i64 0, .int .i64 0]) ?_ 1 _ rfl; (with_reducible repeat (first | refine zi ?_ _ | refine zk ?_ | refine zh ?_ _)); refine zx (cs := #[.string (⟨#[]⟩ : ByteArray), .string (⟨#[]⟩ : ByteArray), .int .i64 0, .int .i64 0, .int .i64 0, .int .i64 0, .int .i64 0]) ?_ 0 _ rfl; (with_reducible repeat (first | refine zi ?_ _ | refine zk ?_ | refine zh ?_ _)); exact zC.out⟩
       have n1_ : Aside0 (Below w.heap.size w (((((((w27.setCell ⟨zB, 0, none⟩ (.string ((rd_T92 l0 x7_1).f0))).setCell ⟨zB, 1, none⟩ (.string ((rd_T92 l0 x7_1).f1))).setCell ⟨zB, 2, none⟩ (.int .i64 ((rd_T92 l0 x7_1).f2))).setCell ⟨zB, 3, none⟩ (.int .i64 ((rd_T92 l0 x7_1).f3))).setCell ⟨zB, 4, none⟩ (.int .i64 ((rd_T92 l0 x7_1).f4))).setCell ⟨zB, 5, none⟩ (.int .i64 ((rd_T92 l0 x7_1).f5))).setCell ⟨zB, 6, none⟩ (.int .i64 ((rd_T92 l0 x7_1).f6)))) := ⟨by repeat (first | (with_reducible first | exact HB.out | apply ze | apply zc | apply zd | refine zj ?_ zD.out) | exact HB.out)⟩
       (try clear zC)
       (try clear HB)
       generalize (((((((w27.setCell ⟨zB, 0, none⟩ (.string ((rd_T92 l0 x7_1).f0))).setCell ⟨zB, 1, none⟩ (.string ((rd_T92 l0 x7_1).f1))).setCell ⟨zB, 2, none⟩ (.int .i64 ((rd_T92 l0 x7_1).f2))).setCell ⟨zB, 3, none⟩ (.int .i64 ((rd_T92 l0 x7_1).f3))).setCell ⟨zB, 4, none⟩ (.int .i64 ((rd_T92 l0 x7_1).f4))).setCell ⟨zB, 5, none⟩ (.int .i64 ((rd_T92 l0 x7_1).f5))).setCell ⟨zB, 6, none⟩ (.int .i64 ((rd_T92 l0 x7_1).f6))) = w29 at n0_ n1_ ⊢
       have zC := n0_
       have HB := n1_
       clear n0_ n1_
       have n0_ := Aside0.mk (zk zC.out)
       have n1_ := Aside0.mk (zd HB.out)
       clear zC
       clear HB
       have zC := n0_
       have HB := n1_
       clear n0_ n1_
       refine start_ (n := 18) (S := fun w' => w'.cell? ⟨zB, 0, none⟩ = some (.string ((rd_T92 l0 x7_1).f0)) ∧ w'.cell? ⟨zB, 1, none⟩ = some (.string ((rd_T92 l0 x7_1).f1)) ∧ w'.cell? ⟨zB, 2, none⟩ = some (.int .i64 ((rd_T92 l0 x7_1).f2)) ∧ w'.cell? ⟨zB, 3, none⟩ = some (.int .i64 ((rd_T92 l0 x7_1).f3)) ∧ w'.cell? ⟨zB, 4, none⟩ = some (.int .i64 ((rd_T92 l0 x7_1).f4)) ∧ w'.cell? ⟨zB, 5, none⟩ = some (.int .i64 ((rd_T92 l0 x7_1).f5)) ∧ w'.cell? ⟨zB, 6, none⟩ = some (.int .i64 ((rd_T92 l0 x7_1).f6))) (ds := []) #[false, false, false, false, false, false, false, false, false, false, false, false, false, false, false, false, false, false] (by kernel_rfl) rfl rfl ⟨(zg zC.out 0).trans rfl, (zg zC.out 1).trans rfl, (zg zC.out 2).trans rfl, (zg zC.out 3).trans rfl, (zg zC.out 4).trans rfl, (zg zC.out 5).trans rfl, (zg zC.out 6).trans rfl⟩ (fun hHeld => ?_); refine with_tabW impl_nodesOk.tab4 impl_nodesOk.bits4 (fun HT_ HW_ => ?_)
       generalize w29.drew = w30 at zC HB hHeld ⊢
       refine take_ (i := 0) (N := some 12) (v := ?_) (a' := ?_) #[true, false, false, false, false, false, false, false, false, false, false, false, false, false, false, false, false, false] rfl rfl (zA HT_.out HW_.out (by kernel_rfl)) (fun _ _ _ h => h) (Or.inl ⟨by rfl, ?_⟩) hHeld ?_ ?_
       rotate_left
       ·rintro w' ⟨s0, s1, s2, s3, s4, s5, s6⟩
        go_simp
        with_reducible rfl
       rotate_left
       ·simp only [Act.put, List.setIfInBounds_toArray, List.set_cons_zero, List.set_cons_succ, zo, zp]
        rfl
       refine one_ (i := 1) (N := some 13) #[true, true, false, false, false, false, false, false, false, false, false, false, false, false, false, false, false, false] rfl rfl (one_of HT_.out (by kernel_rfl)) (by decide) (fun K hK => ?_)
       refine goes_ Tryd.func137 (by kernel_rfl) rfl #[.agg #[.string ((rd_T92 l0 x7_1).f0), .string ((rd_T92 l0 x7_1).f1), .int .i64 ((rd_T92 l0 x7_1).f2), .int .i64 ((rd_T92 l0 x7_1).f3), .int .i64 ((rd_T92 l0 x7_1).f4), .int .i64 ((rd_T92 l0 x7_1).f5), .int .i64 ((rd_T92 l0 x7_1).f6)]] (by rfl) rfl rfl (by (try simp only [List.map_toArray, List.map_cons, List.map_nil]); first | done | rfl | (simp only [List.length_drop, List.length_take]; rfl)) ?_
       with_reducible refine (impl_Node_valid.calls k1 ((rd_T92 l0 x7_1).f0) ((rd_T92 l0 x7_1).f1) ((rd_T92 l0 x7_1).f2) ((rd_T92 l0 x7_1).f3) ((rd_T92 l0 x7_1).f4) ((rd_T92 l0 x7_1).f5) ((rd_T92 l0 x7_1).f6) false _ A5.out ?globMAX_).mono ?_; (case globMAX_ => exact Go.Proofs.YtjoafknckmoojaaDoorH.GFMAX.below HGMAX_.out (by repeat (first | (with_reducible first | exact HB.out | exact Below.refl _ _ | apply ze | apply zc | apply zd | refine zj ?_ (Aside0.out (by assumption))) | exact HB.out)))
       rintro e w31 ⟨rfl, hb⟩
       refine ⟨_, rfl, ?_⟩
       have n0_ := Aside0.mk (zt (g := zB) (o := .cells #[.string ((rd_T92 l0 x7_1).f0), .string ((rd_T92 l0 x7_1).f1), .int .i64 ((rd_T92 l0 x7_1).f2), .int .i64 ((rd_T92 l0 x7_1).f3), .int .i64 ((rd_T92 l0 x7_1).f4), .int .i64 ((rd_T92 l0 x7_1).f5), .int .i64 ((rd_T92 l0 x7_1).f6)] 92 (0, 0)) (by (with_reducible repeat (first | refine zi ?_ _ | refine zk ?_ | refine zh ?_ _)); exact zC.out) hb)
       have n1_ := Aside0.mk (zl (by repeat (first | (with_reducible first | exact HB.out | apply ze | apply zc | apply zd | refine zj ?_ zD.out) | exact HB.out)) hb)
       clear zC
       clear HB
       have zC := n0_
       have HB := n1_
       clear n0_ n1_
       (try clear hb)
       (try clear hb2)
       (try clear hk)
       (try clear hi)
       refine hK.out _ _ ⟨(zg zC.out 0).trans rfl, (zg zC.out 1).trans rfl, (zg zC.out 2).trans rfl, (zg zC.out 3).trans rfl, (zg zC.out 4).trans rfl, (zg zC.out 5).trans rfl, (zg zC.out 6).trans rfl⟩ (fun hHeld => ?_)
       clear hK K
       refine norm_ (a' := ?_) ?_ ?_
       rotate_left
       ·show Act.put _ (some 13) _ = _
        simp only [Act.put, List.setIfInBounds_toArray, List.set_cons_zero, List.set_cons_succ, zo, zp]
        rfl
       refine zr (i := 2) (N := some 14) (v := ?_) (a' := ?_) #[true, true, true, false, false, false, false, false, false, false, false, false, false, false, false, false, false, false] rfl rfl (zn HT_.out (by kernel_rfl)) (fun _ _ _ h => h) (Or.inl ⟨by rfl, ?_⟩) ?_ ?_
       rotate_left
       ·intro w'
        go_simp
        with_reducible rfl
       rotate_left
       ·simp only [Act.put, List.setIfInBounds_toArray, List.set_cons_zero, List.set_cons_succ, zo, zp]
        rfl
       refine zr (i := 3) (N := some 15) (v := ?_) (a' := ?_) #[true, true, true, true, false, false, false, false, false, false, false, false, false, false, false, false, false, false] rfl rfl (zn HT_.out (by kernel_rfl)) (fun _ _ _ h => h) (Or.inl ⟨by rfl, ?_⟩) ?_ ?_
       rotate_left
       ·intro w'
        go_simp
        with_reducible rfl
       rotate_left
       ·simp only [Act.put, List.setIfInBounds_toArray, List.set_cons_zero, List.set_cons_succ, zo, zp]
        rfl
       refine zr (i := 4) (N := some 16) (v := undef) (a' := ?_) #[true, true, true, true, true, false, false, false, false, false, false, false, false, false, false, false, false, false] rfl rfl (zn HT_.out (by kernel_rfl)) (fun _ _ _ h => h) (Or.inr ⟨by rfl, rfl⟩) ?_ ?_
       rotate_left
       ·simp only [Act.put, List.setIfInBounds_toArray, List.set_cons_zero, List.set_cons_succ, zo, zp]
        rfl
       refine zr (i := 5) (N := some 17) (v := undef) (a' := ?_) #[true, true, true, true, true, true, false, false, false, false, false, false, false, false, false, false, false, false] rfl rfl (zn HT_.out (by kernel_rfl)) (fun _ _ _ h => h) (Or.inr ⟨by rfl, rfl⟩) ?_ ?_
       rotate_left
       ·simp only [Act.put, List.setIfInBounds_toArray, List.set_cons_zero, List.set_cons_succ, zo, zp]
        rfl
       refine zr (i := 6) (N := some 18) (v := undef) (a' := ?_) #[true, true, true, true, true, true, true, false, false, false, false, false, false, false, false, false, false, false] rfl rfl (zn HT_.out (by kernel_rfl)) (fun _ _ _ h => h) (Or.inr ⟨by rfl, rfl⟩) ?_ ?_
       rotate_left
       ·simp only [Act.put, List.setIfInBounds_toArray, List.set_cons_zero, List.set_cons_succ, zo, zp]
        rfl
       refine zr (i := 7) (N := some 19) (v := undef) (a' := ?_) #[true, true, true, true, true, true, true, true, false, false, false, false, false, false, false, false, false, false] rfl rfl (zn HT_.out (by kernel_rfl)) (fun _ _ _ h => h) (Or.inr ⟨by rfl, rfl⟩) ?_ ?_
       rotate_left
       ·simp only [Act.put, List.setIfInBounds_toArray, List.set_cons_zero, List.set_cons_succ, zo, zp]
        rfl
       refine zr (i := 8) (N := some 20) (v := undef) (a' := ?_) #[true, true, true, true, true, true, true, true, true, false, false, false, false, false, false, false, false, false] rfl rfl (zn HT_.out (by kernel_rfl)) (fun _ _ _ h => h) (Or.inr ⟨by rfl, rfl⟩) ?_ ?_
       rotate_left
       ·simp only [Act.put, List.setIfInBounds_toArray, List.set_cons_zero, List.set_cons_succ, zo, zp]
        rfl
       refine zr (i := 9) (N := some 21) (v := undef) (a' := ?_) #[true, true, true, true, true, true, true, true, true, true, false, false, false, false, false, false, false, false] rfl rfl (zn HT_.out (by kernel_rfl)) (fun _ _ _ h => h) (Or.inr ⟨by rfl, rfl⟩) ?_ ?_
       rotate_left
       ·simp only [Act.put, List.setIfInBounds_toArray, List.set_cons_zero, List.set_cons_succ, zo, zp]
        rfl
       refine zr (i := 10) (N := some 22) (v := undef) (a' := ?_) #[true, true, true, true, true, true, true, true, true, true, true, false, false, false, false, false, false, false] rfl rfl (zn HT_.out (by kernel_rfl)) (fun _ _ _ h => h) (Or.inr ⟨by rfl, rfl⟩) ?_ ?_
       rotate_left
       ·simp only [Act.put, List.setIfInBounds_toArray, List.set_cons_zero, List.set_cons_succ, zo, zp]
        rfl
       refine zr (i := 11) (N := some 23) (v := undef) (a' := ?_) #[true, true, true, true, true, true, true, true, true, true, true, true, false, false, false, false, false, false] rfl rfl (zn HT_.out (by kernel_rfl)) (fun _ _ _ h => h) (Or.inr ⟨by rfl, rfl⟩) ?_ ?_
       rotate_left
       ·simp only [Act.put, List.setIfInBounds_toArray, List.set_cons_zero, List.set_cons_succ, zo, zp]
        rfl
       refine zr (i := 12) (N := some 24) (v := undef) (a' := ?_) #[true, true, true, true, true, true, true, true, true, true, true, true, true, false, false, false, false, false] rfl rfl (zn HT_.out (by kernel_rfl)) (fun _ _ _ h => h) (Or.inr ⟨by rfl, rfl⟩) ?_ ?_
       rotate_left
       ·simp only [Act.put, List.setIfInBounds_toArray, List.set_cons_zero, List.set_cons_succ, zo, zp]
        rfl
       refine zr (i := 13) (N := some 25) (v := undef) (a' := ?_) #[true, true, true, true, true, true, true, true, true, true, true, true, true, true, false, false, false, false] rfl rfl (zn HT_.out (by kernel_rfl)) (fun _ _ _ h => h) (Or.inr ⟨by rfl, rfl⟩) ?_ ?_
       rotate_left
       ·simp only [Act.put, List.setIfInBounds_toArray, List.set_cons_zero, List.set_cons_succ, zo, zp]
        rfl
       refine zr (i := 14) (N := some 26) (v := undef) (a' := ?_) #[true, true, true, true, true, true, true, true, true, true, true, true, true, true, true, false, false, false] rfl rfl (zn HT_.out (by kernel_rfl)) (fun _ _ _ h => h) (Or.inr ⟨by rfl, rfl⟩) ?_ ?_
       rotate_left
       ·simp only [Act.put, List.setIfInBounds_toArray, List.set_cons_zero, List.set_cons_succ, zo, zp]
        rfl
       refine zr (i := 15) (N := some 27) (v := undef) (a' := ?_) #[true, true, true, true, true, true, true, true, true, true, true, true, true, true, true, true, false, false] rfl rfl (zn HT_.out (by kernel_rfl)) (fun _ _ _ h => h) (Or.inr ⟨by rfl, rfl⟩) ?_ ?_
       rotate_left
       ·simp only [Act.put, List.setIfInBounds_toArray, List.set_cons_zero, List.set_cons_succ, zo, zp]
        rfl
       refine zr (i := 16) (N := some 28) (v := undef) (a' := ?_) #[true, true, true, true, true, true, true, true, true, true, true, true, true, true, true, true, true, false] rfl rfl (zn HT_.out (by kernel_rfl)) (fun _ _ _ h => h) (Or.inr ⟨by rfl, rfl⟩) ?_ ?_
       rotate_left
       ·simp only [Act.put, List.setIfInBounds_toArray, List.set_cons_zero, List.set_cons_succ, zo, zp]
        rfl
       refine zr (i := 17) (N := some 29) (v := ?_) (a' := ?_) #[true, true, true, true, true, true, true, true, true, true, true, true, true, true, true, true, true, true] rfl rfl (zn HT_.out (by kernel_rfl)) (fun _ _ _ h => h) (Or.inl ⟨by rfl, ?_⟩) ?_ ?_
       rotate_left
       ·intro w'
        go_simp
        with_reducible rfl
       rotate_left
       ·simp only [Act.put, List.setIfInBounds_toArray, List.set_cons_zero, List.set_cons_succ, zo, zp]
        rfl
       refine done_ (done_of HT_.out (by kernel_rfl)) ?_
       try go_wp2
       go_ret
       exact ⟨by first | rfl | (simp [errW_none, errW_some] <;> rfl) | (simp [*, errW_none, errW_some] <;> rfl), by repeat (first | (with_reducible first | exact HB.out | apply ze | apply zc | apply zd | refine zj ?_ zD.out) | exact HB.out)⟩
     ·rw [if_neg c4] at H
      exact absurd H (by simp)
    ·rw [if_neg c3] at H
     exact absurd H (by simp)
   ·rw [if_neg c2] at H
    have c2b0 : decide (x7_1 < (l0.length : Int)) = false := decide_eq_false c2
    clear c2
    obtain rfl := Option.some.inj H
    go_wp2
    go_ret
    exact ⟨by first | rfl | (simp [errW_none, errW_some] <;> rfl) | (simp [*, errW_none, errW_some] <;> rfl), by repeat (first | (with_reducible first | exact HB.out | apply ze | apply zc | apply zd) | exact HB.out)⟩

end Go.Proofs.YtjoafknckmoojaaDoor.GFnExactDecodeTree
