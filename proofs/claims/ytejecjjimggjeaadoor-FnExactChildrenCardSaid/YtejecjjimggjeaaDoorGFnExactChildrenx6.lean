/- Written by give.py, a program of this session, that runs the kit's print and lays contracts proved by hand beside it. -/
import Derived.Test.YtejecjjimggjeaaDoorGFnExactChildrenx0
import Derived.Test.YtejecjjimggjeaaDoorGFnExactChildrenx5
namespace Go.Proofs.YtejecjjimggjeaaDoor.GFnExactChildren
open Go.RowKit Go.Proofs.YtejecjjimggjeaaDoorW.PrintWords Go.Proofs.YtejecjjimggjeaaDoorW.PrintLast Go.Proofs.YtejecjjimggjeaaDoorW.PrintMore
attribute [local go_sem] max2_int min2_int max_two min_two max_three min_three max_four min_four
attribute [local go_sem high] Go.Proofs.YtejecjjimggjeaaDoorH.str_leq Go.Proofs.YtejecjjimggjeaaDoorH.str_geq Go.Proofs.YtejecjjimggjeaaDoorH.str_gtr   -- for this text's walks alone
set_option linter.unusedVariables false
set_option linter.unusedSimpArgs false

def impl_nodesOk.l0 : Nat → List (S53) → List (S53) → Int → Int → Option (Bool)
 | 0, _, _, _, _ => none
 | k + 1, x0, x5, x6, x7 => if x7 < x6 then (if 0 ≤ x7 then (if x7 < (x5.length : Int) then ((impl_Node_valid.f k ((rd_T53 x5 x7).f0) ((rd_T53 x5 x7).f1) ((rd_T53 x5 x7).f2) ((rd_T53 x5 x7).f3) ((rd_T53 x5 x7).f4) ((rd_T53 x5 x7).f5) ((rd_T53 x5 x7).f6)).bind fun t201 => (if t201 = true then (if x7 > 0 then (if 0 ≤ (wrap64 (x7 - 1)) then (if (wrap64 (x7 - 1)) < (x0.length : Int) then (if ((Op.bytesLess (((rd_T53 x0 (wrap64 (x7 - 1))).f0).toList) (((rd_T53 x5 x7).f0).toList)) = true) then (impl_nodesOk.l0 k x0 x5 x6 (wrap64 (x7 + 1))) else (some false)) else (none)) else (none)) else (impl_nodesOk.l0 k x0 x5 x6 (wrap64 (x7 + 1)))) else (some false))) else (none)) else (none)) else (some true)
def impl_nodesOk.f (k : Nat) (l0 : List (S53)) : Option (Bool) := impl_nodesOk.l0 k l0 l0 (l0.length : Int) 0
theorem impl_nodesOk.mono_l : ∀ k, (∀ y0 y1 y2 y3, LeO (impl_nodesOk.l0 k y0 y1 y2 y3) (impl_nodesOk.l0 (k + 1) y0 y1 y2 y3))
 | 0 => fun _ _ _ _ r h => by simp [impl_nodesOk.l0] at h
 | k + 1 => by
  have ih0 := impl_nodesOk.mono_l k
  ·intro y0 y1 y2 y3
   unfold impl_nodesOk.l0
   repeat' first
   | (with_reducible exact ih0 _ _ _ _)
   | (with_reducible exact impl_Node_valid.mono _ _ _ _ _ _ _ _)
   | (with_reducible exact LeO.refl _)
   | (with_reducible exact LeO.none _)
   | (with_reducible refine LeO.ite ?_ ?_)
   | (with_reducible refine LeO.bind ?_ (fun _ => ?_))
   | exact ih0 _ _ _ _
   | exact impl_Node_valid.mono _ _ _ _ _ _ _ _
   | exact LeO.none _
   | refine LeO.ite ?_ ?_
   | refine LeO.bind ?_ (fun _ => ?_)
theorem impl_nodesOk.mono : ∀ a0 k, LeO (impl_nodesOk.f k a0) (impl_nodesOk.f (k + 1) a0) := by
 intro a0 k
 have ih0 := impl_nodesOk.mono_l k
 unfold impl_nodesOk.f
 repeat' first
   | (with_reducible exact ih0 _ _ _ _)
   | (with_reducible exact impl_Node_valid.mono _ _ _ _ _ _ _ _)
   | (with_reducible exact LeO.refl _)
   | (with_reducible exact LeO.none _)
   | (with_reducible refine LeO.ite ?_ ?_)
   | (with_reducible refine LeO.bind ?_ (fun _ => ?_))
   | exact ih0 _ _ _ _
   | exact impl_Node_valid.mono _ _ _ _ _ _ _ _
   | exact LeO.none _
   | refine LeO.ite ?_ ?_
   | refine LeO.bind ?_ (fun _ => ?_)
def impl_nodesOk.T4 : Bool × List (List Nat × List Nat) := (true, [([], []), ([0], [0]), ([1], [1]), ([2, 1], [2]), ([3], [3]), ([4, 3], [3, 4]), ([5, 3, 3], [3, 5]), ([6], [6]), ([7, 6], [6, 7]), ([6], [6]), ([6], [6]), ([10, 6], [6, 10]), ([9, 11, 6], [6, 9, 11]), ([12, 6], [6, 12]), ([13, 6], [6, 13]), ([8, 14, 6], [6, 8, 14]), ([6, 15, 3], [3, 6, 15]), ([3, 16], [3, 16])])
def impl_nodesOk.B4 : List Nat := [0, 1, 3, 7, 15, 31, 63, 127, 255, 127, 127, 1151, 3711, 7807, 15999, 32767, 65535, 131071]
theorem impl_nodesOk.tab4 : rtab .any (opsOf Tryd.f66 4) = impl_nodesOk.T4 := by kernel_rfl
theorem impl_nodesOk.bits4 : waitsOk impl_nodesOk.T4.2 impl_nodesOk.B4 = true := by kernel_rfl
set_option maxHeartbeats 8000000 in
set_option maxRecDepth 100000 in
theorem impl_nodesOk.calls (k : Nat) (A0 : Option Addr) (c0 : Nat) (l0 : List (S53)) (r : Bool) (w : World) (hr0 : Kd.C k53 w A0 l0.length l0) (hc0 : l0.length ≤ c0) (h : impl_nodesOk.f k l0 = some r) (hGMAX_ : Go.Proofs.YtejecjjimggjeaaDoorH.GFMAX w) :
  Calls Tryd.prog 66 #[.slice A0 l0.length c0] w fun e w' => e = .returned (.bool r) ∧ Below w.heap.size w w' := by
 have HGMAX_ := Aside0.mk hGMAX_
 clear hGMAX_
 have hu53 := Tryd.underlying53
 have HR0 := Aside0.mk hr0
 have HC0 := Aside0.mk hc0
 clear hr0 hc0
 have HB := Aside0.mk (Below.refl w.heap.size w)
 have H : (impl_nodesOk.l0 k l0 l0 (l0.length : Int) 0) = some r := h
 clear h
 have H' := Aside0.mk H
 clear H
 go_enter Tryd.func66, Tryd.ntmps66
 go_wp2
 go_loopg [7] k (fun kq v7 w' => ∃ (x7_1 : Int), v7 = .int .i64 x7_1 ∧ Aside0 (impl_nodesOk.l0 kq l0 l0 (l0.length : Int) x7_1 = some r) ∧ Aside0 (kq ≤ k) ∧ Aside0 (Below w.heap.size w w'))
 case atStart => exact ⟨(0), (by first | rfl | (simp; done) | (simp [*]; done)), H', ⟨Nat.le_refl _⟩, ⟨by repeat (first | (with_reducible first | exact HB.out | apply zg | apply zd | apply zf) | exact HB.out)⟩⟩
 case round =>
  clear H'
  obtain ⟨x7_1, rfl, HA, HK1, HB⟩ := hrel
  cases gk with
  | zero => exact absurd HA.out (by simp [impl_nodesOk.l0])
  | succ k1 =>
   have H := HA.out
   clear HA
   simp only [impl_nodesOk.l0] at H
   by_cases c2 : x7_1 < (l0.length : Int)
   ·rw [if_pos c2] at H
    have c2b0 : decide (x7_1 < (l0.length : Int)) = true := decide_eq_true c2
    clear c2
    by_cases c3 : 0 ≤ x7_1
    ·rw [if_pos c3] at H
     have c3b0 : decide (0 ≤ x7_1) = true := decide_eq_true c3
     clear c3
     by_cases c4 : x7_1 < (l0.length : Int)
     ·rw [if_pos c4] at H
      have c4b0 : decide (x7_1 < (l0.length : Int)) = true := decide_eq_true c4
      clear c4
      replace H := Option.bind_eq_some_iff.mp H
      obtain ⟨t201, A50, H⟩ := H
      replace H : (if t201 = true then (if x7_1 > 0 then (if 0 ≤ (wrap64 (x7_1 - 1)) then (if (wrap64 (x7_1 - 1)) < (l0.length : Int) then (if ((Op.bytesLess (((rd_T53 l0 (wrap64 (x7_1 - 1))).f0).toList) (((rd_T53 l0 x7_1).f0).toList)) = true) then (impl_nodesOk.l0 k1 l0 l0 (l0.length : Int) (wrap64 (x7_1 + 1))) else (some false)) else (none)) else (none)) else (impl_nodesOk.l0 k1 l0 l0 (l0.length : Int) (wrap64 (x7_1 + 1)))) else (some false)) = some r := H
      have A5 := Aside0.mk A50
      clear A50
      by_cases c6 : t201 = true
      ·subst c6
       have H1 : (if x7_1 > 0 then (if 0 ≤ (wrap64 (x7_1 - 1)) then (if (wrap64 (x7_1 - 1)) < (l0.length : Int) then (if ((Op.bytesLess (((rd_T53 l0 (wrap64 (x7_1 - 1))).f0).toList) (((rd_T53 l0 x7_1).f0).toList)) = true) then (impl_nodesOk.l0 k1 l0 l0 (l0.length : Int) (wrap64 (x7_1 + 1))) else (some false)) else (none)) else (none)) else (impl_nodesOk.l0 k1 l0 l0 (l0.length : Int) (wrap64 (x7_1 + 1)))) = some r := by rw [if_pos rfl] at H; exact H
       clear H
       have H := H1
       clear H1
       by_cases c7 : x7_1 > 0
       ·rw [if_pos c7] at H
        have c7b0 : decide (0 < x7_1) = true := decide_eq_true c7
        clear c7
        obtain ⟨ji8, hji8⟩ : ∃ j_ : Int, (wrap64 (x7_1 - 1)) = j_ := ⟨_, rfl⟩
        replace H : (if 0 ≤ (ji8) then (if (ji8) < (l0.length : Int) then (if ((Op.bytesLess (((rd_T53 l0 (ji8)).f0).toList) (((rd_T53 l0 x7_1).f0).toList)) = true) then (impl_nodesOk.l0 k1 l0 l0 (l0.length : Int) (wrap64 (x7_1 + 1))) else (some false)) else (none)) else (none)) = some r := by first | (rw [hji8] at H; exact H) | (simp only [hji8] at H ⊢; exact H)
        (try rw [hji8] at A5)
        have hji8w : (IntKind.i64.wrap (x7_1 - 1)) = ji8 := (zq _).trans hji8
        by_cases c9 : 0 ≤ (ji8)
        ·rw [if_pos c9] at H
         have c9b0 : decide (0 ≤ (ji8)) = true := decide_eq_true c9
         clear c9
         by_cases c10 : (ji8) < (l0.length : Int)
         ·rw [if_pos c10] at H
          have c10b0 : decide ((ji8) < (l0.length : Int)) = true := decide_eq_true c10
          clear c10
          by_cases c11 : ((Op.bytesLess (((rd_T53 l0 (ji8)).f0).toList) (((rd_T53 l0 x7_1).f0).toList)) = true)
          ·rw [if_pos c11] at H
           have c11b0 : (Op.bytesLess (((rd_T53 l0 (ji8)).f0).toList) (((rd_T53 l0 x7_1).f0).toList)) = true := c11
           clear c11
           have H' := Aside0.mk H
           clear H
           have p199 : 0 ≤ (x7_1 : Int) := of_decide_eq_true (by first | (with_reducible assumption) | assumption)
           have q199 : x7_1 < (l0.length : Int) := of_decide_eq_true (by first | (with_reducible assumption) | assumption)
           obtain ⟨ad199, e199, hx199_0, hx199_1, hx199_2, hx199_3, hx199_4, hx199_5, hx199_6⟩ := at_T53 HR0.out x7_1 p199 q199
           cases e199
           replace hx199_0 := zb HB.out hx199_0
           replace hx199_1 := zb HB.out hx199_1
           replace hx199_2 := zb HB.out hx199_2
           replace hx199_3 := zb HB.out hx199_3
           replace hx199_4 := zb HB.out hx199_4
           replace hx199_5 := zb HB.out hx199_5
           replace hx199_6 := zb HB.out hx199_6
           replace p199 := eq_true p199
           replace q199 := eq_true q199
           try go_wp2_with (first | ((with_reducible refine zu (N := 4) rfl ?_); refine zs ?hg (N := 4) ?hd (cs := #[.string (⟨#[]⟩ : ByteArray), .string (⟨#[]⟩ : ByteArray), .int .i64 0, .int .i64 0, .int .i64 0, .int .i64 0, .int .i64 0]) (t := 53) ?hr ?_; (case hd => rfl); (case hg => rfl); (case hr => first | (go_simp; done) | (go_simp; rfl)); intro zx hg w12 hbox hb; have n0_ := Aside0.mk (zi (by exact bl HB.out) hb); have n1_ := Aside0.mk (hbox); have n2_ := Aside0.mk ((by rw [hg]; exact (zh (by exact bl HB.out)) : w.heap.size ≤ zx)); have n3_ := Aside0.mk ((by rw [hg]; exact (zh (by exact bl HB.out)) : w.heap.size ≤ zx)); clear HB; have HB := n0_; have zy := n1_; have GW200 := n2_; have zz := n3_; clear n0_ n1_ n2_ n3_; clear hb hbox hg; have zA : w12.cell? ⟨zx, 0, none⟩ = some (.string (⟨#[]⟩ : ByteArray)) := (ze zy.out 0).trans rfl; have zB : w12.cell? ⟨zx, 1, none⟩ = some (.string (⟨#[]⟩ : ByteArray)) := (ze zy.out 1).trans rfl; have zC : w12.cell? ⟨zx, 2, none⟩ = some (.int .i64 0) := (ze zy.out 2).trans rfl; have zD : w12.cell? ⟨zx, 3, none⟩ = some (.int .i64 0) := (ze zy.out 3).trans rfl; have zE : w12.cell? ⟨zx, 4, none⟩ = some (.int .i64 0) := (ze zy.out 4).trans rfl; have zF : w12.cell? ⟨zx, 5, none⟩ = some (.int .i64 0) := (ze zy.out 5).trans rfl; have zG : w12.cell? ⟨zx, 6, none⟩ = some (.int .i64 0) := (ze zy.out 6).trans rfl; have zH := zc zy.out 0; have zI := zc zy.out 1; have zJ := zc zy.out 2; have zK := zc zy.out 3; have zL := zc zy.out 4; have zM := zc zy.out 5; have zN := zc zy.out 6))
           have n0_ : Aside0 ((((((((w12.setCell ⟨zx, 0, none⟩ (.string ((rd_T53 l0 x7_1).f0))).setCell ⟨zx, 1, none⟩ (.string ((rd_T53 l0 x7_1).f1))).setCell ⟨zx, 2, none⟩ (.int .i64 ((rd_T53 l0 x7_1).f2))).setCell ⟨zx, 3, none⟩ (.int .i64 ((rd_T53 l0 x7_1).f3))).setCell ⟨zx, 4, none⟩ (.int .i64 ((rd_T53 l0 x7_1).f4))).setCell ⟨zx, 5, none⟩ (.int .i64 ((rd_T53 l0 x7_1).f5))).setCell ⟨zx, 6, none⟩ (.int .i64 ((rd_T53 l0 x7_1).f6))).heap[zx]? = some (.cells #[.string ((rd_T53 l0 x7_1).f0), .string ((rd_T53 l0 x7_1).f1), .int .i64 ((rd_T53 l0 x7_1).f2), .int .i64 ((rd_T53 l0 x7_1).f3), .int .i64 ((rd_T53 l0 x7_1).f4), .int .i64 ((rd_T53 l0 x7_1).f5), .int .i64 ((rd_T53 l0 x7_1).f6)] 53 (0, 0))) := ⟨by (with_reducible repeat (first | refine zn ?_ _ | refine zo ?_ | refine zl ?_ _)); refine zw (cs := #[.string ((rd_T53 l0 x7_1).f0), .string ((rd_T53 l0 x7_1).f1), .int .i64 ((rd_T53 l0 x7_1).f2), .int .i64 ((rd_T53 l0 x7_1).f3), .int .i64 ((rd_T53 l0 x7_1).f4), .int .i64 ((rd_T53 l0 x7_1).f5), .int .i64 0]) ?_ 6 _ rfl; (with_reducible repeat (first | refine zn ?_ _ | refine zo ?_ | refine zl ?_ _)); refine zw (cs := #[.string ((rd_T53 l0 x7_1).f0), .string ((rd_T53 l0 x7_1).f1), .int .i64 ((rd_T53 l0 x7_1).f2), .int .i64 ((rd_T53 l0 x7_1).f3), .int .i64 ((rd_T53 l0 x7_1).f4), .int .i64 0, .int .i64 0]) ?_ 5 _ rfl; (with_reducible repeat (first | refine zn ?_ _ | refine zo ?_ | refine zl ?_ _)); refine zw (cs := #[.string ((rd_T53 l0 x7_1).f0), .string ((rd_T53 l0 x7_1).f1), .int .i64 ((rd_T53 l0 x7_1).f2), .int .i64 ((rd_T53 l0 x7_1).f3), .int .i64 0, .int .i64 0, .int .i64 0]) ?_ 4 _ rfl; (with_reducible repeat (first | refine zn ?_ _ | refine zo ?_ | refine zl ?_ _)); refine zw (cs := #[.string ((rd_T53 l0 x7_1).f0), .string ((rd_T53 l0 x7_1).f1), .int .i64 ((rd_T53 l0 x7_1).f2), .int .i64 0, .int .i64 0, .int .i64 0, .int .i64 0]) ?_ 3 _ rfl; (with_reducible repeat (first | refine zn ?_ _ | refine zo ?_ | refine zl ?_ _)); refine zw (cs := #[.string ((rd_T53 l0 x7_1).f0), .string ((rd_T53 l0 x7_1).f1), .int .i64 0, .int .i64 0, .int .i64 0, .int .i64 0, .int .i64 0]) ?_ 2 _ rfl; (with_reducible repeat (first | refine zn ?_ _ | refine zo ?_ | refine zl ?_ _)); refine zw (cs := #[.string ((rd_T53 l0 x7_1).f0), .string (⟨#[]⟩ : ByteArray), .int .i64 0, .int .i64 0, .int .i64 0, .int .i64 0, .int .i64 0]) ?_ 1 _ rfl; (with_reducible repeat (first | refine zn ?_ _ | refine zo ?_ | refine zl ?_ _)); refine zw (cs := #[.string (⟨#[]⟩ : ByteArray), .string (⟨#[]⟩ : ByteArray), .int .i64 0, .int .i64 0, .int .i64 0, .int .i64 0, .int .i64 0]) ?_ 0 _ rfl; (with_reducible repeat (first | refine zn ?_ _ | refine zo ?_ | refine zl ?_ _)); exact zy.out⟩
           have n1_ : Aside0 (Below w.heap.size w (((((((w12.setCell ⟨zx, 0, none⟩ (.string ((rd_T53 l0 x7_1).f0))).setCell ⟨zx, 1, none⟩ (.string ((rd_T53 l0 x7_1).f1))).setCell ⟨zx, 2, none⟩ (.int .i64 ((rd_T53 l0 x7_1).f2))).setCell ⟨zx, 3, none⟩ (.int .i64 ((rd_T53 l0 x7_1).f3))).setCell ⟨zx, 4, none⟩ (.int .i64 ((rd_T53 l0 x7_1).f4))).setCell ⟨zx, 5, none⟩ (.int .i64 ((rd_T53 l0 x7_1).f5))).setCell ⟨zx, 6, none⟩ (.int .i64 ((rd_T53 l0 x7_1).f6)))) := ⟨by repeat (first | (with_reducible first | exact HB.out | apply zg | apply zd | apply zf | refine zj ?_ zz.out) | exact HB.out)⟩
           (try clear zy)
           (try clear HB)
           generalize (((((((w12.setCell ⟨zx, 0, none⟩ (.string ((rd_T53 l0 x7_1).f0))).setCell ⟨zx, 1, none⟩ (.string ((rd_T53 l0 x7_1).f1))).setCell ⟨zx, 2, none⟩ (.int .i64 ((rd_T53 l0 x7_1).f2))).setCell ⟨zx, 3, none⟩ (.int .i64 ((rd_T53 l0 x7_1).f3))).setCell ⟨zx, 4, none⟩ (.int .i64 ((rd_T53 l0 x7_1).f4))).setCell ⟨zx, 5, none⟩ (.int .i64 ((rd_T53 l0 x7_1).f5))).setCell ⟨zx, 6, none⟩ (.int .i64 ((rd_T53 l0 x7_1).f6))) = w14 at n0_ n1_ ⊢
           have zy := n0_
           have HB := n1_
           clear n0_ n1_
           have n0_ := Aside0.mk (zo zy.out)
           have n1_ := Aside0.mk (zf HB.out)
           clear zy
           clear HB
           have zy := n0_
           have HB := n1_
           clear n0_ n1_
           have p202 : 0 ≤ ((ji8) : Int) := of_decide_eq_true (by first | (with_reducible assumption) | assumption)
           have q202 : (ji8) < (l0.length : Int) := of_decide_eq_true (by first | (with_reducible assumption) | assumption)
           obtain ⟨ad202, e202, hx202_0, hx202_1, hx202_2, hx202_3, hx202_4, hx202_5, hx202_6⟩ := at_T53 HR0.out (ji8) p202 q202
           have hw202_6 := hx202_6
           have hw202_5 := hx202_5
           have hw202_4 := hx202_4
           have hw202_3 := hx202_3
           have hw202_2 := hx202_2
           have hw202_1 := hx202_1
           have hw202_0 := hx202_0
           obtain rfl : ad199 = ad202 := (by injection e202)
           replace hx202_0 := zb HB.out hx202_0
           replace hx202_1 := zb HB.out hx202_1
           replace hx202_2 := zb HB.out hx202_2
           replace hx202_3 := zb HB.out hx202_3
           replace hx202_4 := zb HB.out hx202_4
           replace hx202_5 := zb HB.out hx202_5
           replace hx202_6 := zb HB.out hx202_6
           replace p202 := eq_true p202
           replace q202 := eq_true q202
           refine start_ (n := 18) (S := fun w' => w'.cell? ⟨zx, 0, none⟩ = some (.string ((rd_T53 l0 x7_1).f0)) ∧ w'.cell? ⟨zx, 1, none⟩ = some (.string ((rd_T53 l0 x7_1).f1)) ∧ w'.cell? ⟨zx, 2, none⟩ = some (.int .i64 ((rd_T53 l0 x7_1).f2)) ∧ w'.cell? ⟨zx, 3, none⟩ = some (.int .i64 ((rd_T53 l0 x7_1).f3)) ∧ w'.cell? ⟨zx, 4, none⟩ = some (.int .i64 ((rd_T53 l0 x7_1).f4)) ∧ w'.cell? ⟨zx, 5, none⟩ = some (.int .i64 ((rd_T53 l0 x7_1).f5)) ∧ w'.cell? ⟨zx, 6, none⟩ = some (.int .i64 ((rd_T53 l0 x7_1).f6)) ∧ w'.cell? (ad199.add (((ji8)).toNat * 7)) = some (.string ((rd_T53 l0 (ji8)).f0)) ∧ w'.cell? ⟨(ad199.add (((ji8)).toNat * 7)).block, (ad199.add (((ji8)).toNat * 7)).off + 1, none⟩ = some (.string ((rd_T53 l0 (ji8)).f1)) ∧ w'.cell? ⟨(ad199.add (((ji8)).toNat * 7)).block, (ad199.add (((ji8)).toNat * 7)).off + 2, none⟩ = some (.int .i64 ((rd_T53 l0 (ji8)).f2)) ∧ w'.cell? ⟨(ad199.add (((ji8)).toNat * 7)).block, (ad199.add (((ji8)).toNat * 7)).off + 3, none⟩ = some (.int .i64 ((rd_T53 l0 (ji8)).f3)) ∧ w'.cell? ⟨(ad199.add (((ji8)).toNat * 7)).block, (ad199.add (((ji8)).toNat * 7)).off + 4, none⟩ = some (.int .i64 ((rd_T53 l0 (ji8)).f4)) ∧ w'.cell? ⟨(ad199.add (((ji8)).toNat * 7)).block, (ad199.add (((ji8)).toNat * 7)).off + 5, none⟩ = some (.int .i64 ((rd_T53 l0 (ji8)).f5)) ∧ w'.cell? ⟨(ad199.add (((ji8)).toNat * 7)).block, (ad199.add (((ji8)).toNat * 7)).off + 6, none⟩ = some (.int .i64 ((rd_T53 l0 (ji8)).f6))) (ds := []) #[false, false, false, false, false, false, false, false, false, false, false, false, false, false, false, false, false, false] (by kernel_rfl) rfl rfl ⟨(ze zy.out 0).trans rfl, (ze zy.out 1).trans rfl, (ze zy.out 2).trans rfl, (ze zy.out 3).trans rfl, (ze zy.out 4).trans rfl, (ze zy.out 5).trans rfl, (ze zy.out 6).trans rfl, (zb HB.out hw202_0), (zb HB.out hw202_1), (zb HB.out hw202_2), (zb HB.out hw202_3), (zb HB.out hw202_4), (zb HB.out hw202_5), (zb HB.out hw202_6)⟩ (fun hHeld => ?_); refine with_tabW impl_nodesOk.tab4 impl_nodesOk.bits4 (fun HT_ HW_ => ?_)
           generalize w14.drew = w15 at zy HB hx202_0 hx202_1 hx202_2 hx202_3 hx202_4 hx202_5 hx202_6 hHeld ⊢
           refine take_ (i := 0) (N := some 12) (v := ?_) (a' := ?_) #[true, false, false, false, false, false, false, false, false, false, false, false, false, false, false, false, false, false] rfl rfl (take_ofW HT_.out HW_.out (by kernel_rfl)) (fun _ _ _ h => h) (Or.inl ⟨by rfl, ?_⟩) hHeld ?_ ?_
           rotate_left
           ·rintro w' ⟨s0, s1, s2, s3, s4, s5, s6, s7, s8, s9, s10, s11, s12, s13⟩
            go_simp
            with_reducible rfl
           rotate_left
           ·simp only [Act.put, List.setIfInBounds_toArray, List.set_cons_zero, List.set_cons_succ, zq, zr]
            rfl
           refine one_ (i := 1) (N := some 13) #[true, true, false, false, false, false, false, false, false, false, false, false, false, false, false, false, false, false] rfl rfl (one_of HT_.out (by kernel_rfl)) (by decide) (fun K hK => ?_)
           refine goes_ Tryd.func56 (by kernel_rfl) rfl #[.agg #[.string ((rd_T53 l0 x7_1).f0), .string ((rd_T53 l0 x7_1).f1), .int .i64 ((rd_T53 l0 x7_1).f2), .int .i64 ((rd_T53 l0 x7_1).f3), .int .i64 ((rd_T53 l0 x7_1).f4), .int .i64 ((rd_T53 l0 x7_1).f5), .int .i64 ((rd_T53 l0 x7_1).f6)]] (by rfl) rfl rfl (by (try simp only [List.map_toArray, List.map_cons, List.map_nil]); first | done | rfl) ?_
           with_reducible refine (impl_Node_valid.calls k1 ((rd_T53 l0 x7_1).f0) ((rd_T53 l0 x7_1).f1) ((rd_T53 l0 x7_1).f2) ((rd_T53 l0 x7_1).f3) ((rd_T53 l0 x7_1).f4) ((rd_T53 l0 x7_1).f5) ((rd_T53 l0 x7_1).f6) true _ A5.out ?globMAX_).mono ?_; (case globMAX_ => exact Go.Proofs.YtejecjjimggjeaaDoorH.GFMAX.below HGMAX_.out (by repeat (first | (with_reducible first | exact HB.out | exact Below.refl _ _ | apply zg | apply zd | apply zf | refine zj ?_ (Aside0.out (by assumption))) | exact HB.out)))
           rintro e w16 ⟨rfl, hb⟩
           refine ⟨_, rfl, ?_⟩
           have n0_ := Aside0.mk (zm (g := zx) (o := .cells #[.string ((rd_T53 l0 x7_1).f0), .string ((rd_T53 l0 x7_1).f1), .int .i64 ((rd_T53 l0 x7_1).f2), .int .i64 ((rd_T53 l0 x7_1).f3), .int .i64 ((rd_T53 l0 x7_1).f4), .int .i64 ((rd_T53 l0 x7_1).f5), .int .i64 ((rd_T53 l0 x7_1).f6)] 53 (0, 0)) (BL zy.out) hb)
           have n1_ := Aside0.mk (zi (by repeat (first | (with_reducible first | exact HB.out | apply zg | apply zd | apply zf | refine zj ?_ zz.out) | exact HB.out)) hb)
           clear zy
           clear HB
           have zy := n0_
           have HB := n1_
           clear n0_ n1_
           (try clear hb)
           (try clear hb2)
           (try clear hk)
           (try clear hi)
           refine hK.out _ _ ⟨(ze zy.out 0).trans rfl, (ze zy.out 1).trans rfl, (ze zy.out 2).trans rfl, (ze zy.out 3).trans rfl, (ze zy.out 4).trans rfl, (ze zy.out 5).trans rfl, (ze zy.out 6).trans rfl, (zb HB.out hw202_0), (zb HB.out hw202_1), (zb HB.out hw202_2), (zb HB.out hw202_3), (zb HB.out hw202_4), (zb HB.out hw202_5), (zb HB.out hw202_6)⟩ (fun hHeld => ?_)
           clear hK K
           refine norm_ (a' := ?_) ?_ ?_
           rotate_left
           ·show Act.put _ (some 13) _ = _
            simp only [Act.put, List.setIfInBounds_toArray, List.set_cons_zero, List.set_cons_succ, zq, zr]
            rfl
           refine zt (i := 2) (N := some 14) (v := ?_) (a' := ?_) #[true, true, true, false, false, false, false, false, false, false, false, false, false, false, false, false, false, false] rfl rfl (zp HT_.out (by kernel_rfl)) (fun _ _ _ h => h) (Or.inl ⟨by rfl, ?_⟩) ?_ ?_
           rotate_left
           ·intro w'
            go_simp
            with_reducible rfl
           rotate_left
           ·simp only [Act.put, List.setIfInBounds_toArray, List.set_cons_zero, List.set_cons_succ, zq, zr]
            rfl
           refine zt (i := 3) (N := some 15) (v := ?_) (a' := ?_) #[true, true, true, true, false, false, false, false, false, false, false, false, false, false, false, false, false, false] rfl rfl (zp HT_.out (by kernel_rfl)) (fun _ _ _ h => h) (Or.inl ⟨by rfl, ?_⟩) ?_ ?_
           rotate_left
           ·intro w'
            go_simp
            with_reducible rfl
           rotate_left
           ·simp only [Act.put, List.setIfInBounds_toArray, List.set_cons_zero, List.set_cons_succ, zq, zr]
            rfl
           refine zt (i := 4) (N := some 16) (v := ?_) (a' := ?_) #[true, true, true, true, true, false, false, false, false, false, false, false, false, false, false, false, false, false] rfl rfl (zp HT_.out (by kernel_rfl)) (fun _ _ _ h => h) (Or.inl ⟨by rfl, ?_⟩) ?_ ?_
           rotate_left
           ·intro w'
            go_simp
            with_reducible rfl
           rotate_left
           ·simp only [Act.put, List.setIfInBounds_toArray, List.set_cons_zero, List.set_cons_succ, zq, zr]
            rfl
           refine zt (i := 5) (N := some 17) (v := ?_) (a' := ?_) #[true, true, true, true, true, true, false, false, false, false, false, false, false, false, false, false, false, false] rfl rfl (zp HT_.out (by kernel_rfl)) (fun _ _ _ h => h) (Or.inl ⟨by rfl, ?_⟩) ?_ ?_
           rotate_left
           ·intro w'
            go_simp
            with_reducible rfl
           rotate_left
           ·simp only [Act.put, List.setIfInBounds_toArray, List.set_cons_zero, List.set_cons_succ, zq, zr]
            rfl
           refine zt (i := 6) (N := some 18) (v := ?_) (a' := ?_) #[true, true, true, true, true, true, true, false, false, false, false, false, false, false, false, false, false, false] rfl rfl (zp HT_.out (by kernel_rfl)) (fun _ _ _ h => h) (Or.inl ⟨by rfl, ?_⟩) ?_ ?_
           rotate_left
           ·intro w'
            go_simp
            with_reducible rfl
           rotate_left
           ·simp only [Act.put, List.setIfInBounds_toArray, List.set_cons_zero, List.set_cons_succ, zq, zr]
            rfl
           refine zt (i := 7) (N := some 19) (v := ?_) (a' := ?_) #[true, true, true, true, true, true, true, true, false, false, false, false, false, false, false, false, false, false] rfl rfl (zp HT_.out (by kernel_rfl)) (fun _ _ _ h => h) (Or.inl ⟨by rfl, ?_⟩) ?_ ?_
           rotate_left
           ·intro w'
            go_simp
            with_reducible rfl
           rotate_left
           ·simp only [Act.put, List.setIfInBounds_toArray, List.set_cons_zero, List.set_cons_succ, zq, zr]
            rfl
           refine zt (i := 9) (N := some 21) (v := ?_) (a' := ?_) #[true, true, true, true, true, true, true, true, false, true, false, false, false, false, false, false, false, false] rfl rfl (zp HT_.out (by kernel_rfl)) (fun _ _ _ h => h) (Or.inl ⟨by rfl, ?_⟩) ?_ ?_
           rotate_left
           ·intro w'
            go_simp
            with_reducible rfl
           rotate_left
           ·simp only [Act.put, List.setIfInBounds_toArray, List.set_cons_zero, List.set_cons_succ, zq, zr]
            rfl
           refine zt (i := 10) (N := some 22) (v := ?_) (a' := ?_) #[true, true, true, true, true, true, true, true, false, true, true, false, false, false, false, false, false, false] rfl rfl (zp HT_.out (by kernel_rfl)) (fun _ _ _ h => h) (Or.inl ⟨by rfl, ?_⟩) ?_ ?_
           rotate_left
           ·intro w'
            go_simp
            with_reducible rfl
           rotate_left
           ·simp only [Act.put, List.setIfInBounds_toArray, List.set_cons_zero, List.set_cons_succ, zq, zr]
            rfl
           refine zt (i := 11) (N := some 23) (v := ?_) (a' := ?_) #[true, true, true, true, true, true, true, true, false, true, true, true, false, false, false, false, false, false] rfl rfl (zp HT_.out (by kernel_rfl)) (fun _ _ _ h => h) (Or.inl ⟨by rfl, ?_⟩) ?_ ?_
           rotate_left
           ·intro w'
            go_simp
            with_reducible rfl
           rotate_left
           ·simp only [Act.put, List.setIfInBounds_toArray, List.set_cons_zero, List.set_cons_succ, zq, zr]
            rfl
           refine zt (i := 12) (N := some 24) (v := ?_) (a' := ?_) #[true, true, true, true, true, true, true, true, false, true, true, true, true, false, false, false, false, false] rfl rfl (zp HT_.out (by kernel_rfl)) (fun _ _ _ h => h) (Or.inl ⟨by rfl, ?_⟩) ?_ ?_
           rotate_left
           ·intro w'
            go_simp
            with_reducible rfl
           rotate_left
           ·simp only [Act.put, List.setIfInBounds_toArray, List.set_cons_zero, List.set_cons_succ, zq, zr]
            rfl
           refine zt (i := 13) (N := some 25) (v := ?_) (a' := ?_) #[true, true, true, true, true, true, true, true, false, true, true, true, true, true, false, false, false, false] rfl rfl (zp HT_.out (by kernel_rfl)) (fun _ _ _ h => h) (Or.inl ⟨by rfl, ?_⟩) ?_ ?_
           rotate_left
           ·intro w'
            go_simp
            with_reducible rfl
           rotate_left
           ·simp only [Act.put, List.setIfInBounds_toArray, List.set_cons_zero, List.set_cons_succ, zq, zr]
            rfl
           refine take_ (i := 8) (N := some 20) (v := ?_) (a' := ?_) #[true, true, true, true, true, true, true, true, true, true, true, true, true, true, false, false, false, false] rfl rfl (take_ofW HT_.out HW_.out (by kernel_rfl)) (fun _ _ _ h => h) (Or.inl ⟨by rfl, ?_⟩) hHeld ?_ ?_
           rotate_left
           ·rintro w' ⟨s0, s1, s2, s3, s4, s5, s6, s7, s8, s9, s10, s11, s12, s13⟩
            go_simp
            with_reducible rfl
           rotate_left
           ·simp only [Act.put, List.setIfInBounds_toArray, List.set_cons_zero, List.set_cons_succ, zq, zr]
            rfl
           refine take_ (i := 14) (N := some 26) (v := ?_) (a' := ?_) #[true, true, true, true, true, true, true, true, true, true, true, true, true, true, true, false, false, false] rfl rfl (take_ofW HT_.out HW_.out (by kernel_rfl)) (fun _ _ _ h => h) (Or.inl ⟨by rfl, ?_⟩) hHeld ?_ ?_
           rotate_left
           ·rintro w' ⟨s0, s1, s2, s3, s4, s5, s6, s7, s8, s9, s10, s11, s12, s13⟩
            go_simp
            with_reducible rfl
           rotate_left
           ·simp only [Act.put, List.setIfInBounds_toArray, List.set_cons_zero, List.set_cons_succ, zq, zr]
            rfl
           refine zt (i := 15) (N := some 27) (v := ?_) (a' := ?_) #[true, true, true, true, true, true, true, true, true, true, true, true, true, true, true, true, false, false] rfl rfl (zp HT_.out (by kernel_rfl)) (fun _ _ _ h => h) (Or.inl ⟨by rfl, ?_⟩) ?_ ?_
           rotate_left
           ·intro w'
            go_simp
            with_reducible rfl
           rotate_left
           ·simp only [Act.put, List.setIfInBounds_toArray, List.set_cons_zero, List.set_cons_succ, zq, zr]
            rfl
           refine zt (i := 16) (N := some 28) (v := ?_) (a' := ?_) #[true, true, true, true, true, true, true, true, true, true, true, true, true, true, true, true, true, false] rfl rfl (zp HT_.out (by kernel_rfl)) (fun _ _ _ h => h) (Or.inl ⟨by rfl, ?_⟩) ?_ ?_
           rotate_left
           ·intro w'
            go_simp
            with_reducible rfl
           rotate_left
           ·simp only [Act.put, List.setIfInBounds_toArray, List.set_cons_zero, List.set_cons_succ, zq, zr]
            rfl
           refine zt (i := 17) (N := some 29) (v := ?_) (a' := ?_) #[true, true, true, true, true, true, true, true, true, true, true, true, true, true, true, true, true, true] rfl rfl (zp HT_.out (by kernel_rfl)) (fun _ _ _ h => h) (Or.inl ⟨by rfl, ?_⟩) ?_ ?_
           rotate_left
           ·intro w'
            go_simp
            with_reducible rfl
           rotate_left
           ·simp only [Act.put, List.setIfInBounds_toArray, List.set_cons_zero, List.set_cons_succ, zq, zr]
            rfl
           refine done_ (done_of HT_.out (by kernel_rfl)) ?_
           try go_wp2
           go_roundg k1
           case measure => have := HK1.out; omega
           case rel => exact ⟨(wrap64 (x7_1 + 1)), (by first | rfl | (simp; done) | (simp [*]; done)), H', ⟨by have := HK1.out; omega⟩, ⟨by repeat (first | (with_reducible first | exact HB.out | apply zg | apply zd | apply zf | refine zj ?_ zz.out) | exact HB.out)⟩⟩
          ·rw [if_neg c11] at H
           have c11b0 : (Op.bytesLess (((rd_T53 l0 (ji8)).f0).toList) (((rd_T53 l0 x7_1).f0).toList)) = false := by simpa using c11
           clear c11
           obtain rfl := Option.some.inj H
           have p199 : 0 ≤ (x7_1 : Int) := of_decide_eq_true (by first | (with_reducible assumption) | assumption)
           have q199 : x7_1 < (l0.length : Int) := of_decide_eq_true (by first | (with_reducible assumption) | assumption)
           obtain ⟨ad199, e199, hx199_0, hx199_1, hx199_2, hx199_3, hx199_4, hx199_5, hx199_6⟩ := at_T53 HR0.out x7_1 p199 q199
           cases e199
           replace hx199_0 := zb HB.out hx199_0
           replace hx199_1 := zb HB.out hx199_1
           replace hx199_2 := zb HB.out hx199_2
           replace hx199_3 := zb HB.out hx199_3
           replace hx199_4 := zb HB.out hx199_4
           replace hx199_5 := zb HB.out hx199_5
           replace hx199_6 := zb HB.out hx199_6
           replace p199 := eq_true p199
           replace q199 := eq_true q199
           try go_wp2_with (first | ((with_reducible refine zu (N := 4) rfl ?_); refine zs ?hg (N := 4) ?hd (cs := #[.string (⟨#[]⟩ : ByteArray), .string (⟨#[]⟩ : ByteArray), .int .i64 0, .int .i64 0, .int .i64 0, .int .i64 0, .int .i64 0]) (t := 53) ?hr ?_; (case hd => rfl); (case hg => rfl); (case hr => first | (go_simp; done) | (go_simp; rfl)); intro zx hg w17 hbox hb; have n0_ := Aside0.mk (zi (by exact bl HB.out) hb); have n1_ := Aside0.mk (hbox); have n2_ := Aside0.mk ((by rw [hg]; exact (zh (by exact bl HB.out)) : w.heap.size ≤ zx)); have n3_ := Aside0.mk ((by rw [hg]; exact (zh (by exact bl HB.out)) : w.heap.size ≤ zx)); clear HB; have HB := n0_; have zy := n1_; have GW200 := n2_; have zz := n3_; clear n0_ n1_ n2_ n3_; clear hb hbox hg; have zO : w17.cell? ⟨zx, 0, none⟩ = some (.string (⟨#[]⟩ : ByteArray)) := (ze zy.out 0).trans rfl; have zP : w17.cell? ⟨zx, 1, none⟩ = some (.string (⟨#[]⟩ : ByteArray)) := (ze zy.out 1).trans rfl; have zQ : w17.cell? ⟨zx, 2, none⟩ = some (.int .i64 0) := (ze zy.out 2).trans rfl; have zR : w17.cell? ⟨zx, 3, none⟩ = some (.int .i64 0) := (ze zy.out 3).trans rfl; have zS : w17.cell? ⟨zx, 4, none⟩ = some (.int .i64 0) := (ze zy.out 4).trans rfl; have zT : w17.cell? ⟨zx, 5, none⟩ = some (.int .i64 0) := (ze zy.out 5).trans rfl; have zU : w17.cell? ⟨zx, 6, none⟩ = some (.int .i64 0) := (ze zy.out 6).trans rfl; have zV := zc zy.out 0; have zW := zc zy.out 1; have zX := zc zy.out 2; have zY := zc zy.out 3; have zZ := zc zy.out 4; have zab := zc zy.out 5; have zbb := zc zy.out 6))
           have n0_ : Aside0 ((((((((w17.setCell ⟨zx, 0, none⟩ (.string ((rd_T53 l0 x7_1).f0))).setCell ⟨zx, 1, none⟩ (.string ((rd_T53 l0 x7_1).f1))).setCell ⟨zx, 2, none⟩ (.int .i64 ((rd_T53 l0 x7_1).f2))).setCell ⟨zx, 3, none⟩ (.int .i64 ((rd_T53 l0 x7_1).f3))).setCell ⟨zx, 4, none⟩ (.int .i64 ((rd_T53 l0 x7_1).f4))).setCell ⟨zx, 5, none⟩ (.int .i64 ((rd_T53 l0 x7_1).f5))).setCell ⟨zx, 6, none⟩ (.int .i64 ((rd_T53 l0 x7_1).f6))).heap[zx]? = some (.cells #[.string ((rd_T53 l0 x7_1).f0), .string ((rd_T53 l0 x7_1).f1), .int .i64 ((rd_T53 l0 x7_1).f2), .int .i64 ((rd_T53 l0 x7_1).f3), .int .i64 ((rd_T53 l0 x7_1).f4), .int .i64 ((rd_T53 l0 x7_1).f5), .int .i64 ((rd_T53 l0 x7_1).f6)] 53 (0, 0))) := ⟨by (with_reducible repeat (first | refine zn ?_ _ | refine zo ?_ | refine zl ?_ _)); refine zw (cs := #[.string ((rd_T53 l0 x7_1).f0), .string ((rd_T53 l0 x7_1).f1), .int .i64 ((rd_T53 l0 x7_1).f2), .int .i64 ((rd_T53 l0 x7_1).f3), .int .i64 ((rd_T53 l0 x7_1).f4), .int .i64 ((rd_T53 l0 x7_1).f5), .int .i64 0]) ?_ 6 _ rfl; (with_reducible repeat (first | refine zn ?_ _ | refine zo ?_ | refine zl ?_ _)); refine zw (cs := #[.string ((rd_T53 l0 x7_1).f0), .string ((rd_T53 l0 x7_1).f1), .int .i64 ((rd_T53 l0 x7_1).f2), .int .i64 ((rd_T53 l0 x7_1).f3), .int .i64 ((rd_T53 l0 x7_1).f4), .int .i64 0, .int .i64 0]) ?_ 5 _ rfl; (with_reducible repeat (first | refine zn ?_ _ | refine zo ?_ | refine zl ?_ _)); refine zw (cs := #[.string ((rd_T53 l0 x7_1).f0), .string ((rd_T53 l0 x7_1).f1), .int .i64 ((rd_T53 l0 x7_1).f2), .int .i64 ((rd_T53 l0 x7_1).f3), .int .i64 0, .int .i64 0, .int .i64 0]) ?_ 4 _ rfl; (with_reducible repeat (first | refine zn ?_ _ | refine zo ?_ | refine zl ?_ _)); refine zw (cs := #[.string ((rd_T53 l0 x7_1).f0), .string ((rd_T53 l0 x7_1).f1), .int .i64 ((rd_T53 l0 x7_1).f2), .int .i64 0, .int .i64 0, .int .i64 0, .int .i64 0]) ?_ 3 _ rfl; (with_reducible repeat (first | refine zn ?_ _ | refine zo ?_ | refine zl ?_ _)); refine zw (cs := #[.string ((rd_T53 l0 x7_1).f0), .string ((rd_T53 l0 x7_1).f1), .int .i64 0, .int .i64 0, .int .i64 0, .int .i64 0, .int .i64 0]) ?_ 2 _ rfl; (with_reducible repeat (first | refine zn ?_ _ | refine zo ?_ | refine zl ?_ _)); refine zw (cs := #[.string ((rd_T53 l0 x7_1).f0), .string (⟨#[]⟩ : ByteArray), .int .i64 0, .int .i64 0, .int .i64 0, .int .i64 0, .int .i64 0]) ?_ 1 _ rfl; (with_reducible repeat (first | refine zn ?_ _ | refine zo ?_ | refine zl ?_ _)); refine zw (cs := #[.string (⟨#[]⟩ : ByteArray), .string (⟨#[]⟩ : ByteArray), .int .i64 0, .int .i64 0, .int .i64 0, .int .i64 0, .int .i64 0]) ?_ 0 _ rfl; (with_reducible repeat (first | refine zn ?_ _ | refine zo ?_ | refine zl ?_ _)); exact zy.out⟩
           have n1_ : Aside0 (Below w.heap.size w (((((((w17.setCell ⟨zx, 0, none⟩ (.string ((rd_T53 l0 x7_1).f0))).setCell ⟨zx, 1, none⟩ (.string ((rd_T53 l0 x7_1).f1))).setCell ⟨zx, 2, none⟩ (.int .i64 ((rd_T53 l0 x7_1).f2))).setCell ⟨zx, 3, none⟩ (.int .i64 ((rd_T53 l0 x7_1).f3))).setCell ⟨zx, 4, none⟩ (.int .i64 ((rd_T53 l0 x7_1).f4))).setCell ⟨zx, 5, none⟩ (.int .i64 ((rd_T53 l0 x7_1).f5))).setCell ⟨zx, 6, none⟩ (.int .i64 ((rd_T53 l0 x7_1).f6)))) := ⟨by repeat (first | (with_reducible first | exact HB.out | apply zg | apply zd | apply zf | refine zj ?_ zz.out) | exact HB.out)⟩
           (try clear zy)
           (try clear HB)
           generalize (((((((w17.setCell ⟨zx, 0, none⟩ (.string ((rd_T53 l0 x7_1).f0))).setCell ⟨zx, 1, none⟩ (.string ((rd_T53 l0 x7_1).f1))).setCell ⟨zx, 2, none⟩ (.int .i64 ((rd_T53 l0 x7_1).f2))).setCell ⟨zx, 3, none⟩ (.int .i64 ((rd_T53 l0 x7_1).f3))).setCell ⟨zx, 4, none⟩ (.int .i64 ((rd_T53 l0 x7_1).f4))).setCell ⟨zx, 5, none⟩ (.int .i64 ((rd_T53 l0 x7_1).f5))).setCell ⟨zx, 6, none⟩ (.int .i64 ((rd_T53 l0 x7_1).f6))) = w19 at n0_ n1_ ⊢
           have zy := n0_
           have HB := n1_
           clear n0_ n1_
           have n0_ := Aside0.mk (zo zy.out)
           have n1_ := Aside0.mk (zf HB.out)
           clear zy
           clear HB
           have zy := n0_
           have HB := n1_
           clear n0_ n1_
           have p202 : 0 ≤ ((ji8) : Int) := of_decide_eq_true (by first | (with_reducible assumption) | assumption)
           have q202 : (ji8) < (l0.length : Int) := of_decide_eq_true (by first | (with_reducible assumption) | assumption)
           obtain ⟨ad202, e202, hx202_0, hx202_1, hx202_2, hx202_3, hx202_4, hx202_5, hx202_6⟩ := at_T53 HR0.out (ji8) p202 q202
           have hw202_6 := hx202_6
           have hw202_5 := hx202_5
           have hw202_4 := hx202_4
           have hw202_3 := hx202_3
           have hw202_2 := hx202_2
           have hw202_1 := hx202_1
           have hw202_0 := hx202_0
           obtain rfl : ad199 = ad202 := (by injection e202)
           replace hx202_0 := zb HB.out hx202_0
           replace hx202_1 := zb HB.out hx202_1
           replace hx202_2 := zb HB.out hx202_2
           replace hx202_3 := zb HB.out hx202_3
           replace hx202_4 := zb HB.out hx202_4
           replace hx202_5 := zb HB.out hx202_5
           replace hx202_6 := zb HB.out hx202_6
           replace p202 := eq_true p202
           replace q202 := eq_true q202
           refine start_ (n := 18) (S := fun w' => w'.cell? ⟨zx, 0, none⟩ = some (.string ((rd_T53 l0 x7_1).f0)) ∧ w'.cell? ⟨zx, 1, none⟩ = some (.string ((rd_T53 l0 x7_1).f1)) ∧ w'.cell? ⟨zx, 2, none⟩ = some (.int .i64 ((rd_T53 l0 x7_1).f2)) ∧ w'.cell? ⟨zx, 3, none⟩ = some (.int .i64 ((rd_T53 l0 x7_1).f3)) ∧ w'.cell? ⟨zx, 4, none⟩ = some (.int .i64 ((rd_T53 l0 x7_1).f4)) ∧ w'.cell? ⟨zx, 5, none⟩ = some (.int .i64 ((rd_T53 l0 x7_1).f5)) ∧ w'.cell? ⟨zx, 6, none⟩ = some (.int .i64 ((rd_T53 l0 x7_1).f6)) ∧ w'.cell? (ad199.add (((ji8)).toNat * 7)) = some (.string ((rd_T53 l0 (ji8)).f0)) ∧ w'.cell? ⟨(ad199.add (((ji8)).toNat * 7)).block, (ad199.add (((ji8)).toNat * 7)).off + 1, none⟩ = some (.string ((rd_T53 l0 (ji8)).f1)) ∧ w'.cell? ⟨(ad199.add (((ji8)).toNat * 7)).block, (ad199.add (((ji8)).toNat * 7)).off + 2, none⟩ = some (.int .i64 ((rd_T53 l0 (ji8)).f2)) ∧ w'.cell? ⟨(ad199.add (((ji8)).toNat * 7)).block, (ad199.add (((ji8)).toNat * 7)).off + 3, none⟩ = some (.int .i64 ((rd_T53 l0 (ji8)).f3)) ∧ w'.cell? ⟨(ad199.add (((ji8)).toNat * 7)).block, (ad199.add (((ji8)).toNat * 7)).off + 4, none⟩ = some (.int .i64 ((rd_T53 l0 (ji8)).f4)) ∧ w'.cell? ⟨(ad199.add (((ji8)).toNat * 7)).block, (ad199.add (((ji8)).toNat * 7)).off + 5, none⟩ = some (.int .i64 ((rd_T53 l0 (ji8)).f5)) ∧ w'.cell? ⟨(ad199.add (((ji8)).toNat * 7)).block, (ad199.add (((ji8)).toNat * 7)).off + 6, none⟩ = some (.int .i64 ((rd_T53 l0 (ji8)).f6))) (ds := []) #[false, false, false, false, false, false, false, false, false, false, false, false, false, false, false, false, false, false] (by kernel_rfl) rfl rfl ⟨(ze zy.out 0).trans rfl, (ze zy.out 1).trans rfl, (ze zy.out 2).trans rfl, (ze zy.out 3).trans rfl, (ze zy.out 4).trans rfl, (ze zy.out 5).trans rfl, (ze zy.out 6).trans rfl, (zb HB.out hw202_0), (zb HB.out hw202_1), (zb HB.out hw202_2), (zb HB.out hw202_3), (zb HB.out hw202_4), (zb HB.out hw202_5), (zb HB.out hw202_6)⟩ (fun hHeld => ?_); refine with_tabW impl_nodesOk.tab4 impl_nodesOk.bits4 (fun HT_ HW_ => ?_)
           generalize w19.drew = w20 at zy HB hx202_0 hx202_1 hx202_2 hx202_3 hx202_4 hx202_5 hx202_6 hHeld ⊢
           refine take_ (i := 0) (N := some 12) (v := ?_) (a' := ?_) #[true, false, false, false, false, false, false, false, false, false, false, false, false, false, false, false, false, false] rfl rfl (take_ofW HT_.out HW_.out (by kernel_rfl)) (fun _ _ _ h => h) (Or.inl ⟨by rfl, ?_⟩) hHeld ?_ ?_
           rotate_left
           ·rintro w' ⟨s0, s1, s2, s3, s4, s5, s6, s7, s8, s9, s10, s11, s12, s13⟩
            go_simp
            with_reducible rfl
           rotate_left
           ·simp only [Act.put, List.setIfInBounds_toArray, List.set_cons_zero, List.set_cons_succ, zq, zr]
            rfl
           refine one_ (i := 1) (N := some 13) #[true, true, false, false, false, false, false, false, false, false, false, false, false, false, false, false, false, false] rfl rfl (one_of HT_.out (by kernel_rfl)) (by decide) (fun K hK => ?_)
           refine goes_ Tryd.func56 (by kernel_rfl) rfl #[.agg #[.string ((rd_T53 l0 x7_1).f0), .string ((rd_T53 l0 x7_1).f1), .int .i64 ((rd_T53 l0 x7_1).f2), .int .i64 ((rd_T53 l0 x7_1).f3), .int .i64 ((rd_T53 l0 x7_1).f4), .int .i64 ((rd_T53 l0 x7_1).f5), .int .i64 ((rd_T53 l0 x7_1).f6)]] (by rfl) rfl rfl (by (try simp only [List.map_toArray, List.map_cons, List.map_nil]); first | done | rfl) ?_
           with_reducible refine (impl_Node_valid.calls k1 ((rd_T53 l0 x7_1).f0) ((rd_T53 l0 x7_1).f1) ((rd_T53 l0 x7_1).f2) ((rd_T53 l0 x7_1).f3) ((rd_T53 l0 x7_1).f4) ((rd_T53 l0 x7_1).f5) ((rd_T53 l0 x7_1).f6) true _ A5.out ?globMAX_).mono ?_; (case globMAX_ => exact Go.Proofs.YtejecjjimggjeaaDoorH.GFMAX.below HGMAX_.out (by repeat (first | (with_reducible first | exact HB.out | exact Below.refl _ _ | apply zg | apply zd | apply zf | refine zj ?_ (Aside0.out (by assumption))) | exact HB.out)))
           rintro e w21 ⟨rfl, hb⟩
           refine ⟨_, rfl, ?_⟩
           have n0_ := Aside0.mk (zm (g := zx) (o := .cells #[.string ((rd_T53 l0 x7_1).f0), .string ((rd_T53 l0 x7_1).f1), .int .i64 ((rd_T53 l0 x7_1).f2), .int .i64 ((rd_T53 l0 x7_1).f3), .int .i64 ((rd_T53 l0 x7_1).f4), .int .i64 ((rd_T53 l0 x7_1).f5), .int .i64 ((rd_T53 l0 x7_1).f6)] 53 (0, 0)) (BL zy.out) hb)
           have n1_ := Aside0.mk (zi (by repeat (first | (with_reducible first | exact HB.out | apply zg | apply zd | apply zf | refine zj ?_ zz.out) | exact HB.out)) hb)
           clear zy
           clear HB
           have zy := n0_
           have HB := n1_
           clear n0_ n1_
           (try clear hb)
           (try clear hb2)
           (try clear hk)
           (try clear hi)
           refine hK.out _ _ ⟨(ze zy.out 0).trans rfl, (ze zy.out 1).trans rfl, (ze zy.out 2).trans rfl, (ze zy.out 3).trans rfl, (ze zy.out 4).trans rfl, (ze zy.out 5).trans rfl, (ze zy.out 6).trans rfl, (zb HB.out hw202_0), (zb HB.out hw202_1), (zb HB.out hw202_2), (zb HB.out hw202_3), (zb HB.out hw202_4), (zb HB.out hw202_5), (zb HB.out hw202_6)⟩ (fun hHeld => ?_)
           clear hK K
           refine norm_ (a' := ?_) ?_ ?_
           rotate_left
           ·show Act.put _ (some 13) _ = _
            simp only [Act.put, List.setIfInBounds_toArray, List.set_cons_zero, List.set_cons_succ, zq, zr]
            rfl
           refine zt (i := 2) (N := some 14) (v := ?_) (a' := ?_) #[true, true, true, false, false, false, false, false, false, false, false, false, false, false, false, false, false, false] rfl rfl (zp HT_.out (by kernel_rfl)) (fun _ _ _ h => h) (Or.inl ⟨by rfl, ?_⟩) ?_ ?_
           rotate_left
           ·intro w'
            go_simp
            with_reducible rfl
           rotate_left
           ·simp only [Act.put, List.setIfInBounds_toArray, List.set_cons_zero, List.set_cons_succ, zq, zr]
            rfl
           refine zt (i := 3) (N := some 15) (v := ?_) (a' := ?_) #[true, true, true, true, false, false, false, false, false, false, false, false, false, false, false, false, false, false] rfl rfl (zp HT_.out (by kernel_rfl)) (fun _ _ _ h => h) (Or.inl ⟨by rfl, ?_⟩) ?_ ?_
           rotate_left
           ·intro w'
            go_simp
            with_reducible rfl
           rotate_left
           ·simp only [Act.put, List.setIfInBounds_toArray, List.set_cons_zero, List.set_cons_succ, zq, zr]
            rfl
           refine zt (i := 4) (N := some 16) (v := ?_) (a' := ?_) #[true, true, true, true, true, false, false, false, false, false, false, false, false, false, false, false, false, false] rfl rfl (zp HT_.out (by kernel_rfl)) (fun _ _ _ h => h) (Or.inl ⟨by rfl, ?_⟩) ?_ ?_
           rotate_left
           ·intro w'
            go_simp
            with_reducible rfl
           rotate_left
           ·simp only [Act.put, List.setIfInBounds_toArray, List.set_cons_zero, List.set_cons_succ, zq, zr]
            rfl
           refine zt (i := 5) (N := some 17) (v := ?_) (a' := ?_) #[true, true, true, true, true, true, false, false, false, false, false, false, false, false, false, false, false, false] rfl rfl (zp HT_.out (by kernel_rfl)) (fun _ _ _ h => h) (Or.inl ⟨by rfl, ?_⟩) ?_ ?_
           rotate_left
           ·intro w'
            go_simp
            with_reducible rfl
           rotate_left
           ·simp only [Act.put, List.setIfInBounds_toArray, List.set_cons_zero, List.set_cons_succ, zq, zr]
            rfl
           refine zt (i := 6) (N := some 18) (v := ?_) (a' := ?_) #[true, true, true, true, true, true, true, false, false, false, false, false, false, false, false, false, false, false] rfl rfl (zp HT_.out (by kernel_rfl)) (fun _ _ _ h => h) (Or.inl ⟨by rfl, ?_⟩) ?_ ?_
           rotate_left
           ·intro w'
            go_simp
            with_reducible rfl
           rotate_left
           ·simp only [Act.put, List.setIfInBounds_toArray, List.set_cons_zero, List.set_cons_succ, zq, zr]
            rfl
           refine zt (i := 7) (N := some 19) (v := ?_) (a' := ?_) #[true, true, true, true, true, true, true, true, false, false, false, false, false, false, false, false, false, false] rfl rfl (zp HT_.out (by kernel_rfl)) (fun _ _ _ h => h) (Or.inl ⟨by rfl, ?_⟩) ?_ ?_
           rotate_left
           ·intro w'
            go_simp
            with_reducible rfl
           rotate_left
           ·simp only [Act.put, List.setIfInBounds_toArray, List.set_cons_zero, List.set_cons_succ, zq, zr]
            rfl
           refine zt (i := 9) (N := some 21) (v := ?_) (a' := ?_) #[true, true, true, true, true, true, true, true, false, true, false, false, false, false, false, false, false, false] rfl rfl (zp HT_.out (by kernel_rfl)) (fun _ _ _ h => h) (Or.inl ⟨by rfl, ?_⟩) ?_ ?_
           rotate_left
           ·intro w'
            go_simp
            with_reducible rfl
           rotate_left
           ·simp only [Act.put, List.setIfInBounds_toArray, List.set_cons_zero, List.set_cons_succ, zq, zr]
            rfl
           refine zt (i := 10) (N := some 22) (v := ?_) (a' := ?_) #[true, true, true, true, true, true, true, true, false, true, true, false, false, false, false, false, false, false] rfl rfl (zp HT_.out (by kernel_rfl)) (fun _ _ _ h => h) (Or.inl ⟨by rfl, ?_⟩) ?_ ?_
           rotate_left
           ·intro w'
            go_simp
            with_reducible rfl
           rotate_left
           ·simp only [Act.put, List.setIfInBounds_toArray, List.set_cons_zero, List.set_cons_succ, zq, zr]
            rfl
           refine zt (i := 11) (N := some 23) (v := ?_) (a' := ?_) #[true, true, true, true, true, true, true, true, false, true, true, true, false, false, false, false, false, false] rfl rfl (zp HT_.out (by kernel_rfl)) (fun _ _ _ h => h) (Or.inl ⟨by rfl, ?_⟩) ?_ ?_
           rotate_left
           ·intro w'
            go_simp
            with_reducible rfl
           rotate_left
           ·simp only [Act.put, List.setIfInBounds_toArray, List.set_cons_zero, List.set_cons_succ, zq, zr]
            rfl
           refine zt (i := 12) (N := some 24) (v := ?_) (a' := ?_) #[true, true, true, true, true, true, true, true, false, true, true, true, true, false, false, false, false, false] rfl rfl (zp HT_.out (by kernel_rfl)) (fun _ _ _ h => h) (Or.inl ⟨by rfl, ?_⟩) ?_ ?_
           rotate_left
           ·intro w'
            go_simp
            with_reducible rfl
           rotate_left
           ·simp only [Act.put, List.setIfInBounds_toArray, List.set_cons_zero, List.set_cons_succ, zq, zr]
            rfl
           refine zt (i := 13) (N := some 25) (v := ?_) (a' := ?_) #[true, true, true, true, true, true, true, true, false, true, true, true, true, true, false, false, false, false] rfl rfl (zp HT_.out (by kernel_rfl)) (fun _ _ _ h => h) (Or.inl ⟨by rfl, ?_⟩) ?_ ?_
           rotate_left
           ·intro w'
            go_simp
            with_reducible rfl
           rotate_left
           ·simp only [Act.put, List.setIfInBounds_toArray, List.set_cons_zero, List.set_cons_succ, zq, zr]
            rfl
           refine take_ (i := 8) (N := some 20) (v := ?_) (a' := ?_) #[true, true, true, true, true, true, true, true, true, true, true, true, true, true, false, false, false, false] rfl rfl (take_ofW HT_.out HW_.out (by kernel_rfl)) (fun _ _ _ h => h) (Or.inl ⟨by rfl, ?_⟩) hHeld ?_ ?_
           rotate_left
           ·rintro w' ⟨s0, s1, s2, s3, s4, s5, s6, s7, s8, s9, s10, s11, s12, s13⟩
            go_simp
            with_reducible rfl
           rotate_left
           ·simp only [Act.put, List.setIfInBounds_toArray, List.set_cons_zero, List.set_cons_succ, zq, zr]
            rfl
           refine take_ (i := 14) (N := some 26) (v := ?_) (a' := ?_) #[true, true, true, true, true, true, true, true, true, true, true, true, true, true, true, false, false, false] rfl rfl (take_ofW HT_.out HW_.out (by kernel_rfl)) (fun _ _ _ h => h) (Or.inl ⟨by rfl, ?_⟩) hHeld ?_ ?_
           rotate_left
           ·rintro w' ⟨s0, s1, s2, s3, s4, s5, s6, s7, s8, s9, s10, s11, s12, s13⟩
            go_simp
            with_reducible rfl
           rotate_left
           ·simp only [Act.put, List.setIfInBounds_toArray, List.set_cons_zero, List.set_cons_succ, zq, zr]
            rfl
           refine zt (i := 15) (N := some 27) (v := ?_) (a' := ?_) #[true, true, true, true, true, true, true, true, true, true, true, true, true, true, true, true, false, false] rfl rfl (zp HT_.out (by kernel_rfl)) (fun _ _ _ h => h) (Or.inl ⟨by rfl, ?_⟩) ?_ ?_
           rotate_left
           ·intro w'
            go_simp
            with_reducible rfl
           rotate_left
           ·simp only [Act.put, List.setIfInBounds_toArray, List.set_cons_zero, List.set_cons_succ, zq, zr]
            rfl
           refine zt (i := 16) (N := some 28) (v := ?_) (a' := ?_) #[true, true, true, true, true, true, true, true, true, true, true, true, true, true, true, true, true, false] rfl rfl (zp HT_.out (by kernel_rfl)) (fun _ _ _ h => h) (Or.inl ⟨by rfl, ?_⟩) ?_ ?_
           rotate_left
           ·intro w'
            go_simp
            with_reducible rfl
           rotate_left
           ·simp only [Act.put, List.setIfInBounds_toArray, List.set_cons_zero, List.set_cons_succ, zq, zr]
            rfl
           refine zt (i := 17) (N := some 29) (v := ?_) (a' := ?_) #[true, true, true, true, true, true, true, true, true, true, true, true, true, true, true, true, true, true] rfl rfl (zp HT_.out (by kernel_rfl)) (fun _ _ _ h => h) (Or.inl ⟨by rfl, ?_⟩) ?_ ?_
           rotate_left
           ·intro w'
            go_simp
            with_reducible rfl
           rotate_left
           ·simp only [Act.put, List.setIfInBounds_toArray, List.set_cons_zero, List.set_cons_succ, zq, zr]
            rfl
           refine done_ (done_of HT_.out (by kernel_rfl)) ?_
           try go_wp2
           go_ret
           exact ⟨by first | rfl | (simp [errW_none, errW_some] <;> rfl) | (simp only [← hji8]; first | rfl | (simp [errW_none, errW_some] <;> rfl)) | (simp [*, errW_none, errW_some] <;> rfl), by repeat (first | (with_reducible first | exact HB.out | apply zg | apply zd | apply zf | refine zj ?_ zz.out) | exact HB.out)⟩
         ·rw [if_neg c10] at H
          exact absurd H (by simp)
        ·rw [if_neg c9] at H
         exact absurd H (by simp)
       ·rw [if_neg c7] at H
        have c7b0 : decide (0 < x7_1) = false := decide_eq_false c7
        clear c7
        have H' := Aside0.mk H
        clear H
        have p199 : 0 ≤ (x7_1 : Int) := of_decide_eq_true (by first | (with_reducible assumption) | assumption)
        have q199 : x7_1 < (l0.length : Int) := of_decide_eq_true (by first | (with_reducible assumption) | assumption)
        obtain ⟨ad199, e199, hx199_0, hx199_1, hx199_2, hx199_3, hx199_4, hx199_5, hx199_6⟩ := at_T53 HR0.out x7_1 p199 q199
        cases e199
        replace hx199_0 := zb HB.out hx199_0
        replace hx199_1 := zb HB.out hx199_1
        replace hx199_2 := zb HB.out hx199_2
        replace hx199_3 := zb HB.out hx199_3
        replace hx199_4 := zb HB.out hx199_4
        replace hx199_5 := zb HB.out hx199_5
        replace hx199_6 := zb HB.out hx199_6
        replace p199 := eq_true p199
        replace q199 := eq_true q199
        try go_wp2_with (first | ((with_reducible refine zu (N := 4) rfl ?_); refine zs ?hg (N := 4) ?hd (cs := #[.string (⟨#[]⟩ : ByteArray), .string (⟨#[]⟩ : ByteArray), .int .i64 0, .int .i64 0, .int .i64 0, .int .i64 0, .int .i64 0]) (t := 53) ?hr ?_; (case hd => rfl); (case hg => rfl); (case hr => first | (go_simp; done) | (go_simp; rfl)); intro zx hg w22 hbox hb; have n0_ := Aside0.mk (zi (by exact bl HB.out) hb); have n1_ := Aside0.mk (hbox); have n2_ := Aside0.mk ((by rw [hg]; exact (zh (by exact bl HB.out)) : w.heap.size ≤ zx)); have n3_ := Aside0.mk ((by rw [hg]; exact (zh (by exact bl HB.out)) : w.heap.size ≤ zx)); clear HB; have HB := n0_; have zy := n1_; have GW200 := n2_; have zz := n3_; clear n0_ n1_ n2_ n3_; clear hb hbox hg; have zcb : w22.cell? ⟨zx, 0, none⟩ = some (.string (⟨#[]⟩ : ByteArray)) := (ze zy.out 0).trans rfl; have zdb : w22.cell? ⟨zx, 1, none⟩ = some (.string (⟨#[]⟩ : ByteArray)) := (ze zy.out 1).trans rfl; have zeb : w22.cell? ⟨zx, 2, none⟩ = some (.int .i64 0) := (ze zy.out 2).trans rfl; have zfb : w22.cell? ⟨zx, 3, none⟩ = some (.int .i64 0) := (ze zy.out 3).trans rfl; have zgb : w22.cell? ⟨zx, 4, none⟩ = some (.int .i64 0) := (ze zy.out 4).trans rfl; have zhb : w22.cell? ⟨zx, 5, none⟩ = some (.int .i64 0) := (ze zy.out 5).trans rfl; have zib : w22.cell? ⟨zx, 6, none⟩ = some (.int .i64 0) := (ze zy.out 6).trans rfl; have zjb := zc zy.out 0; have zkb := zc zy.out 1; have zlb := zc zy.out 2; have zmb := zc zy.out 3; have znb := zc zy.out 4; have zob := zc zy.out 5; have zpb := zc zy.out 6))
        have n0_ : Aside0 ((((((((w22.setCell ⟨zx, 0, none⟩ (.string ((rd_T53 l0 x7_1).f0))).setCell ⟨zx, 1, none⟩ (.string ((rd_T53 l0 x7_1).f1))).setCell ⟨zx, 2, none⟩ (.int .i64 ((rd_T53 l0 x7_1).f2))).setCell ⟨zx, 3, none⟩ (.int .i64 ((rd_T53 l0 x7_1).f3))).setCell ⟨zx, 4, none⟩ (.int .i64 ((rd_T53 l0 x7_1).f4))).setCell ⟨zx, 5, none⟩ (.int .i64 ((rd_T53 l0 x7_1).f5))).setCell ⟨zx, 6, none⟩ (.int .i64 ((rd_T53 l0 x7_1).f6))).heap[zx]? = some (.cells #[.string ((rd_T53 l0 x7_1).f0), .string ((rd_T53 l0 x7_1).f1), .int .i64 ((rd_T53 l0 x7_1).f2), .int .i64 ((rd_T53 l0 x7_1).f3), .int .i64 ((rd_T53 l0 x7_1).f4), .int .i64 ((rd_T53 l0 x7_1).f5), .int .i64 ((rd_T53 l0 x7_1).f6)] 53 (0, 0))) := ⟨by (with_reducible repeat (first | refine zn ?_ _ | refine zo ?_ | refine zl ?_ _)); refine zw (cs := #[.string ((rd_T53 l0 x7_1).f0), .string ((rd_T53 l0 x7_1).f1), .int .i64 ((rd_T53 l0 x7_1).f2), .int .i64 ((rd_T53 l0 x7_1).f3), .int .i64 ((rd_T53 l0 x7_1).f4), .int .i64 ((rd_T53 l0 x7_1).f5), .int .i64 0]) ?_ 6 _ rfl; (with_reducible repeat (first | refine zn ?_ _ | refine zo ?_ | refine zl ?_ _)); refine zw (cs := #[.string ((rd_T53 l0 x7_1).f0), .string ((rd_T53 l0 x7_1).f1), .int .i64 ((rd_T53 l0 x7_1).f2), .int .i64 ((rd_T53 l0 x7_1).f3), .int .i64 ((rd_T53 l0 x7_1).f4), .int .i64 0, .int .i64 0]) ?_ 5 _ rfl; (with_reducible repeat (first | refine zn ?_ _ | refine zo ?_ | refine zl ?_ _)); refine zw (cs := #[.string ((rd_T53 l0 x7_1).f0), .string ((rd_T53 l0 x7_1).f1), .int .i64 ((rd_T53 l0 x7_1).f2), .int .i64 ((rd_T53 l0 x7_1).f3), .int .i64 0, .int .i64 0, .int .i64 0]) ?_ 4 _ rfl; (with_reducible repeat (first | refine zn ?_ _ | refine zo ?_ | refine zl ?_ _)); refine zw (cs := #[.string ((rd_T53 l0 x7_1).f0), .string ((rd_T53 l0 x7_1).f1), .int .i64 ((rd_T53 l0 x7_1).f2), .int .i64 0, .int .i64 0, .int .i64 0, .int .i64 0]) ?_ 3 _ rfl; (with_reducible repeat (first | refine zn ?_ _ | refine zo ?_ | refine zl ?_ _)); refine zw (cs := #[.string ((rd_T53 l0 x7_1).f0), .string ((rd_T53 l0 x7_1).f1), .int .i64 0, .int .i64 0, .int .i64 0, .int .i64 0, .int .i64 0]) ?_ 2 _ rfl; (with_reducible repeat (first | refine zn ?_ _ | refine zo ?_ | refine zl ?_ _)); refine zw (cs := #[.string ((rd_T53 l0 x7_1).f0), .string (⟨#[]⟩ : ByteArray), .int .i64 0, .int .i64 0, .int .i64 0, .int .i64 0, .int .i64 0]) ?_ 1 _ rfl; (with_reducible repeat (first | refine zn ?_ _ | refine zo ?_ | refine zl ?_ _)); refine zw (cs := #[.string (⟨#[]⟩ : ByteArray), .string (⟨#[]⟩ : ByteArray), .int .i64 0, .int .i64 0, .int .i64 0, .int .i64 0, .int .i64 0]) ?_ 0 _ rfl; (with_reducible repeat (first | refine zn ?_ _ | refine zo ?_ | refine zl ?_ _)); exact zy.out⟩
        have n1_ : Aside0 (Below w.heap.size w (((((((w22.setCell ⟨zx, 0, none⟩ (.string ((rd_T53 l0 x7_1).f0))).setCell ⟨zx, 1, none⟩ (.string ((rd_T53 l0 x7_1).f1))).setCell ⟨zx, 2, none⟩ (.int .i64 ((rd_T53 l0 x7_1).f2))).setCell ⟨zx, 3, none⟩ (.int .i64 ((rd_T53 l0 x7_1).f3))).setCell ⟨zx, 4, none⟩ (.int .i64 ((rd_T53 l0 x7_1).f4))).setCell ⟨zx, 5, none⟩ (.int .i64 ((rd_T53 l0 x7_1).f5))).setCell ⟨zx, 6, none⟩ (.int .i64 ((rd_T53 l0 x7_1).f6)))) := ⟨by repeat (first | (with_reducible first | exact HB.out | apply zg | apply zd | apply zf | refine zj ?_ zz.out) | exact HB.out)⟩
        (try clear zy)
        (try clear HB)
        generalize (((((((w22.setCell ⟨zx, 0, none⟩ (.string ((rd_T53 l0 x7_1).f0))).setCell ⟨zx, 1, none⟩ (.string ((rd_T53 l0 x7_1).f1))).setCell ⟨zx, 2, none⟩ (.int .i64 ((rd_T53 l0 x7_1).f2))).setCell ⟨zx, 3, none⟩ (.int .i64 ((rd_T53 l0 x7_1).f3))).setCell ⟨zx, 4, none⟩ (.int .i64 ((rd_T53 l0 x7_1).f4))).setCell ⟨zx, 5, none⟩ (.int .i64 ((rd_T53 l0 x7_1).f5))).setCell ⟨zx, 6, none⟩ (.int .i64 ((rd_T53 l0 x7_1).f6))) = w24 at n0_ n1_ ⊢
        have zy := n0_
        have HB := n1_
        clear n0_ n1_
        have n0_ := Aside0.mk (zo zy.out)
        have n1_ := Aside0.mk (zf HB.out)
        clear zy
        clear HB
        have zy := n0_
        have HB := n1_
        clear n0_ n1_
        refine start_ (n := 18) (S := fun w' => w'.cell? ⟨zx, 0, none⟩ = some (.string ((rd_T53 l0 x7_1).f0)) ∧ w'.cell? ⟨zx, 1, none⟩ = some (.string ((rd_T53 l0 x7_1).f1)) ∧ w'.cell? ⟨zx, 2, none⟩ = some (.int .i64 ((rd_T53 l0 x7_1).f2)) ∧ w'.cell? ⟨zx, 3, none⟩ = some (.int .i64 ((rd_T53 l0 x7_1).f3)) ∧ w'.cell? ⟨zx, 4, none⟩ = some (.int .i64 ((rd_T53 l0 x7_1).f4)) ∧ w'.cell? ⟨zx, 5, none⟩ = some (.int .i64 ((rd_T53 l0 x7_1).f5)) ∧ w'.cell? ⟨zx, 6, none⟩ = some (.int .i64 ((rd_T53 l0 x7_1).f6))) (ds := []) #[false, false, false, false, false, false, false, false, false, false, false, false, false, false, false, false, false, false] (by kernel_rfl) rfl rfl ⟨(ze zy.out 0).trans rfl, (ze zy.out 1).trans rfl, (ze zy.out 2).trans rfl, (ze zy.out 3).trans rfl, (ze zy.out 4).trans rfl, (ze zy.out 5).trans rfl, (ze zy.out 6).trans rfl⟩ (fun hHeld => ?_); refine with_tabW impl_nodesOk.tab4 impl_nodesOk.bits4 (fun HT_ HW_ => ?_)
        generalize w24.drew = w25 at zy HB hHeld ⊢
        refine take_ (i := 0) (N := some 12) (v := ?_) (a' := ?_) #[true, false, false, false, false, false, false, false, false, false, false, false, false, false, false, false, false, false] rfl rfl (take_ofW HT_.out HW_.out (by kernel_rfl)) (fun _ _ _ h => h) (Or.inl ⟨by rfl, ?_⟩) hHeld ?_ ?_
        rotate_left
        ·rintro w' ⟨s0, s1, s2, s3, s4, s5, s6⟩
         go_simp
         with_reducible rfl
        rotate_left
        ·simp only [Act.put, List.setIfInBounds_toArray, List.set_cons_zero, List.set_cons_succ, zq, zr]
         rfl
        refine one_ (i := 1) (N := some 13) #[true, true, false, false, false, false, false, false, false, false, false, false, false, false, false, false, false, false] rfl rfl (one_of HT_.out (by kernel_rfl)) (by decide) (fun K hK => ?_)
        refine goes_ Tryd.func56 (by kernel_rfl) rfl #[.agg #[.string ((rd_T53 l0 x7_1).f0), .string ((rd_T53 l0 x7_1).f1), .int .i64 ((rd_T53 l0 x7_1).f2), .int .i64 ((rd_T53 l0 x7_1).f3), .int .i64 ((rd_T53 l0 x7_1).f4), .int .i64 ((rd_T53 l0 x7_1).f5), .int .i64 ((rd_T53 l0 x7_1).f6)]] (by rfl) rfl rfl (by (try simp only [List.map_toArray, List.map_cons, List.map_nil]); first | done | rfl) ?_
        with_reducible refine (impl_Node_valid.calls k1 ((rd_T53 l0 x7_1).f0) ((rd_T53 l0 x7_1).f1) ((rd_T53 l0 x7_1).f2) ((rd_T53 l0 x7_1).f3) ((rd_T53 l0 x7_1).f4) ((rd_T53 l0 x7_1).f5) ((rd_T53 l0 x7_1).f6) true _ A5.out ?globMAX_).mono ?_; (case globMAX_ => exact Go.Proofs.YtejecjjimggjeaaDoorH.GFMAX.below HGMAX_.out (by repeat (first | (with_reducible first | exact HB.out | exact Below.refl _ _ | apply zg | apply zd | apply zf | refine zj ?_ (Aside0.out (by assumption))) | exact HB.out)))
        rintro e w26 ⟨rfl, hb⟩
        refine ⟨_, rfl, ?_⟩
        have n0_ := Aside0.mk (zm (g := zx) (o := .cells #[.string ((rd_T53 l0 x7_1).f0), .string ((rd_T53 l0 x7_1).f1), .int .i64 ((rd_T53 l0 x7_1).f2), .int .i64 ((rd_T53 l0 x7_1).f3), .int .i64 ((rd_T53 l0 x7_1).f4), .int .i64 ((rd_T53 l0 x7_1).f5), .int .i64 ((rd_T53 l0 x7_1).f6)] 53 (0, 0)) (BL zy.out) hb)
        have n1_ := Aside0.mk (zi (by repeat (first | (with_reducible first | exact HB.out | apply zg | apply zd | apply zf | refine zj ?_ zz.out) | exact HB.out)) hb)
        clear zy
        clear HB
        have zy := n0_
        have HB := n1_
        clear n0_ n1_
        (try clear hb)
        (try clear hb2)
        (try clear hk)
        (try clear hi)
        refine hK.out _ _ ⟨(ze zy.out 0).trans rfl, (ze zy.out 1).trans rfl, (ze zy.out 2).trans rfl, (ze zy.out 3).trans rfl, (ze zy.out 4).trans rfl, (ze zy.out 5).trans rfl, (ze zy.out 6).trans rfl⟩ (fun hHeld => ?_)
        clear hK K
        refine norm_ (a' := ?_) ?_ ?_
        rotate_left
        ·show Act.put _ (some 13) _ = _
         simp only [Act.put, List.setIfInBounds_toArray, List.set_cons_zero, List.set_cons_succ, zq, zr]
         rfl
        refine zt (i := 2) (N := some 14) (v := ?_) (a' := ?_) #[true, true, true, false, false, false, false, false, false, false, false, false, false, false, false, false, false, false] rfl rfl (zp HT_.out (by kernel_rfl)) (fun _ _ _ h => h) (Or.inl ⟨by rfl, ?_⟩) ?_ ?_
        rotate_left
        ·intro w'
         go_simp
         with_reducible rfl
        rotate_left
        ·simp only [Act.put, List.setIfInBounds_toArray, List.set_cons_zero, List.set_cons_succ, zq, zr]
         rfl
        refine zt (i := 3) (N := some 15) (v := ?_) (a' := ?_) #[true, true, true, true, false, false, false, false, false, false, false, false, false, false, false, false, false, false] rfl rfl (zp HT_.out (by kernel_rfl)) (fun _ _ _ h => h) (Or.inl ⟨by rfl, ?_⟩) ?_ ?_
        rotate_left
        ·intro w'
         go_simp
         with_reducible rfl
        rotate_left
        ·simp only [Act.put, List.setIfInBounds_toArray, List.set_cons_zero, List.set_cons_succ, zq, zr]
         rfl
        refine zt (i := 4) (N := some 16) (v := ?_) (a' := ?_) #[true, true, true, true, true, false, false, false, false, false, false, false, false, false, false, false, false, false] rfl rfl (zp HT_.out (by kernel_rfl)) (fun _ _ _ h => h) (Or.inl ⟨by rfl, ?_⟩) ?_ ?_
        rotate_left
        ·intro w'
         go_simp
         with_reducible rfl
        rotate_left
        ·simp only [Act.put, List.setIfInBounds_toArray, List.set_cons_zero, List.set_cons_succ, zq, zr]
         rfl
        refine zt (i := 5) (N := some 17) (v := ?_) (a' := ?_) #[true, true, true, true, true, true, false, false, false, false, false, false, false, false, false, false, false, false] rfl rfl (zp HT_.out (by kernel_rfl)) (fun _ _ _ h => h) (Or.inl ⟨by rfl, ?_⟩) ?_ ?_
        rotate_left
        ·intro w'
         go_simp
         with_reducible rfl
        rotate_left
        ·simp only [Act.put, List.setIfInBounds_toArray, List.set_cons_zero, List.set_cons_succ, zq, zr]
         rfl
        refine zt (i := 6) (N := some 18) (v := ?_) (a' := ?_) #[true, true, true, true, true, true, true, false, false, false, false, false, false, false, false, false, false, false] rfl rfl (zp HT_.out (by kernel_rfl)) (fun _ _ _ h => h) (Or.inl ⟨by rfl, ?_⟩) ?_ ?_
        rotate_left
        ·intro w'
         go_simp
         with_reducible rfl
        rotate_left
        ·simp only [Act.put, List.setIfInBounds_toArray, List.set_cons_zero, List.set_cons_succ, zq, zr]
         rfl
        refine zt (i := 7) (N := some 19) (v := undef) (a' := ?_) #[true, true, true, true, true, true, true, true, false, false, false, false, false, false, false, false, false, false] rfl rfl (zp HT_.out (by kernel_rfl)) (fun _ _ _ h => h) (Or.inr ⟨by rfl, rfl⟩) ?_ ?_
        rotate_left
        ·simp only [Act.put, List.setIfInBounds_toArray, List.set_cons_zero, List.set_cons_succ, zq, zr]
         rfl
        refine zt (i := 8) (N := some 20) (v := undef) (a' := ?_) #[true, true, true, true, true, true, true, true, true, false, false, false, false, false, false, false, false, false] rfl rfl (zp HT_.out (by kernel_rfl)) (fun _ _ _ h => h) (Or.inr ⟨by rfl, rfl⟩) ?_ ?_
        rotate_left
        ·simp only [Act.put, List.setIfInBounds_toArray, List.set_cons_zero, List.set_cons_succ, zq, zr]
         rfl
        refine zt (i := 9) (N := some 21) (v := undef) (a' := ?_) #[true, true, true, true, true, true, true, true, true, true, false, false, false, false, false, false, false, false] rfl rfl (zp HT_.out (by kernel_rfl)) (fun _ _ _ h => h) (Or.inr ⟨by rfl, rfl⟩) ?_ ?_
        rotate_left
        ·simp only [Act.put, List.setIfInBounds_toArray, List.set_cons_zero, List.set_cons_succ, zq, zr]
         rfl
        refine zt (i := 10) (N := some 22) (v := undef) (a' := ?_) #[true, true, true, true, true, true, true, true, true, true, true, false, false, false, false, false, false, false] rfl rfl (zp HT_.out (by kernel_rfl)) (fun _ _ _ h => h) (Or.inr ⟨by rfl, rfl⟩) ?_ ?_
        rotate_left
        ·simp only [Act.put, List.setIfInBounds_toArray, List.set_cons_zero, List.set_cons_succ, zq, zr]
         rfl
        refine zt (i := 11) (N := some 23) (v := undef) (a' := ?_) #[true, true, true, true, true, true, true, true, true, true, true, true, false, false, false, false, false, false] rfl rfl (zp HT_.out (by kernel_rfl)) (fun _ _ _ h => h) (Or.inr ⟨by rfl, rfl⟩) ?_ ?_
        rotate_left
        ·simp only [Act.put, List.setIfInBounds_toArray, List.set_cons_zero, List.set_cons_succ, zq, zr]
         rfl
        refine zt (i := 12) (N := some 24) (v := undef) (a' := ?_) #[true, true, true, true, true, true, true, true, true, true, true, true, true, false, false, false, false, false] rfl rfl (zp HT_.out (by kernel_rfl)) (fun _ _ _ h => h) (Or.inr ⟨by rfl, rfl⟩) ?_ ?_
        rotate_left
        ·simp only [Act.put, List.setIfInBounds_toArray, List.set_cons_zero, List.set_cons_succ, zq, zr]
         rfl
        refine zt (i := 13) (N := some 25) (v := undef) (a' := ?_) #[true, true, true, true, true, true, true, true, true, true, true, true, true, true, false, false, false, false] rfl rfl (zp HT_.out (by kernel_rfl)) (fun _ _ _ h => h) (Or.inr ⟨by rfl, rfl⟩) ?_ ?_
        rotate_left
        ·simp only [Act.put, List.setIfInBounds_toArray, List.set_cons_zero, List.set_cons_succ, zq, zr]
         rfl
        refine zt (i := 14) (N := some 26) (v := undef) (a' := ?_) #[true, true, true, true, true, true, true, true, true, true, true, true, true, true, true, false, false, false] rfl rfl (zp HT_.out (by kernel_rfl)) (fun _ _ _ h => h) (Or.inr ⟨by rfl, rfl⟩) ?_ ?_
        rotate_left
        ·simp only [Act.put, List.setIfInBounds_toArray, List.set_cons_zero, List.set_cons_succ, zq, zr]
         rfl
        refine zt (i := 15) (N := some 27) (v := undef) (a' := ?_) #[true, true, true, true, true, true, true, true, true, true, true, true, true, true, true, true, false, false] rfl rfl (zp HT_.out (by kernel_rfl)) (fun _ _ _ h => h) (Or.inr ⟨by rfl, rfl⟩) ?_ ?_
        rotate_left
        ·simp only [Act.put, List.setIfInBounds_toArray, List.set_cons_zero, List.set_cons_succ, zq, zr]
         rfl
        refine zt (i := 16) (N := some 28) (v := ?_) (a' := ?_) #[true, true, true, true, true, true, true, true, true, true, true, true, true, true, true, true, true, false] rfl rfl (zp HT_.out (by kernel_rfl)) (fun _ _ _ h => h) (Or.inl ⟨by rfl, ?_⟩) ?_ ?_
        rotate_left
        ·intro w'
         go_simp
         with_reducible rfl
        rotate_left
        ·simp only [Act.put, List.setIfInBounds_toArray, List.set_cons_zero, List.set_cons_succ, zq, zr]
         rfl
        refine zt (i := 17) (N := some 29) (v := ?_) (a' := ?_) #[true, true, true, true, true, true, true, true, true, true, true, true, true, true, true, true, true, true] rfl rfl (zp HT_.out (by kernel_rfl)) (fun _ _ _ h => h) (Or.inl ⟨by rfl, ?_⟩) ?_ ?_
        rotate_left
        ·intro w'
         go_simp
         with_reducible rfl
        rotate_left
        ·simp only [Act.put, List.setIfInBounds_toArray, List.set_cons_zero, List.set_cons_succ, zq, zr]
         rfl
        refine done_ (done_of HT_.out (by kernel_rfl)) ?_
        try go_wp2
        go_roundg k1
        case measure => have := HK1.out; omega
        case rel => exact ⟨(wrap64 (x7_1 + 1)), (by first | rfl | (simp; done) | (simp [*]; done)), H', ⟨by have := HK1.out; omega⟩, ⟨by repeat (first | (with_reducible first | exact HB.out | apply zg | apply zd | apply zf | refine zj ?_ zz.out) | exact HB.out)⟩⟩
      ·replace c6 := Bool.eq_false_iff.mpr c6
       subst c6
       have H1 : (some false) = some r := by rw [if_neg (show ¬ (false = true) by decide)] at H; exact H
       clear H
       have H := H1
       clear H1
       obtain rfl := Option.some.inj H
       have p199 : 0 ≤ (x7_1 : Int) := of_decide_eq_true (by first | (with_reducible assumption) | assumption)
       have q199 : x7_1 < (l0.length : Int) := of_decide_eq_true (by first | (with_reducible assumption) | assumption)
       obtain ⟨ad199, e199, hx199_0, hx199_1, hx199_2, hx199_3, hx199_4, hx199_5, hx199_6⟩ := at_T53 HR0.out x7_1 p199 q199
       cases e199
       replace hx199_0 := zb HB.out hx199_0
       replace hx199_1 := zb HB.out hx199_1
       replace hx199_2 := zb HB.out hx199_2
       replace hx199_3 := zb HB.out hx199_3
       replace hx199_4 := zb HB.out hx199_4
       replace hx199_5 := zb HB.out hx199_5
       replace hx199_6 := zb HB.out hx199_6
       replace p199 := eq_true p199
       replace q199 := eq_true q199
       try go_wp2_with (first | ((with_reducible refine zu (N := 4) rfl ?_); refine zs ?hg (N := 4) ?hd (cs := #[.string (⟨#[]⟩ : ByteArray), .string (⟨#[]⟩ : ByteArray), .int .i64 0, .int .i64 0, .int .i64 0, .int .i64 0, .int .i64 0]) (t := 53) ?hr ?_; (case hd => rfl); (case hg => rfl); (case hr => first | (go_simp; done) | (go_simp; rfl)); intro zx hg w27 hbox hb; have n0_ := Aside0.mk (zi (by exact bl HB.out) hb); have n1_ := Aside0.mk (hbox); have n2_ := Aside0.mk ((by rw [hg]; exact (zh (by exact bl HB.out)) : w.heap.size ≤ zx)); have n3_ := Aside0.mk ((by rw [hg]; exact (zh (by exact bl HB.out)) : w.heap.size ≤ zx)); clear HB; have HB := n0_; have zy := n1_; have GW200 := n2_; have zz := n3_; clear n0_ n1_ n2_ n3_; clear hb hbox hg; have zqb : w27.cell? ⟨zx, 0, none⟩ = some (.string (⟨#[]⟩ : ByteArray)) := (ze zy.out 0).trans rfl; have zrb : w27.cell? ⟨zx, 1, none⟩ = some (.string (⟨#[]⟩ : ByteArray)) := (ze zy.out 1).trans rfl; have zsb : w27.cell? ⟨zx, 2, none⟩ = some (.int .i64 0) := (ze zy.out 2).trans rfl; have ztb : w27.cell? ⟨zx, 3, none⟩ = some (.int .i64 0) := (ze zy.out 3).trans rfl; have zub : w27.cell? ⟨zx, 4, none⟩ = some (.int .i64 0) := (ze zy.out 4).trans rfl; have zvb : w27.cell? ⟨zx, 5, none⟩ = some (.int .i64 0) := (ze zy.out 5).trans rfl; have zwb : w27.cell? ⟨zx, 6, none⟩ = some (.int .i64 0) := (ze zy.out 6).trans rfl; have zxb := zc zy.out 0; have zyb := zc zy.out 1; have zzb := zc zy.out 2; have zAb := zc zy.out 3; have zBb := zc zy.out 4; have zCb := zc zy.out 5; have zDb := zc zy.out 6))
       have n0_ : Aside0 ((((((((w27.setCell ⟨zx, 0, none⟩ (.string ((rd_T53 l0 x7_1).f0))).setCell ⟨zx, 1, none⟩ (.string ((rd_T53 l0 x7_1).f1))).setCell ⟨zx, 2, none⟩ (.int .i64 ((rd_T53 l0 x7_1).f2))).setCell ⟨zx, 3, none⟩ (.int .i64 ((rd_T53 l0 x7_1).f3))).setCell ⟨zx, 4, none⟩ (.int .i64 ((rd_T53 l0 x7_1).f4))).setCell ⟨zx, 5, none⟩ (.int .i64 ((rd_T53 l0 x7_1).f5))).setCell ⟨zx, 6, none⟩ (.int .i64 ((rd_T53 l0 x7_1).f6))).heap[zx]? = some (.cells #[.string ((rd_T53 l0 x7_1).f0), .string ((rd_T53 l0 x7_1).f1), .int .i64 ((rd_T53 l0 x7_1).f2), .int .i64 ((rd_T53 l0 x7_1).f3), .int .i64 ((rd_T53 l0 x7_1).f4), .int .i64 ((rd_T53 l0 x7_1).f5), .int .i64 ((rd_T53 l0 x7_1).f6)] 53 (0, 0))) := ⟨by (with_reducible repeat (first | refine zn ?_ _ | refine zo ?_ | refine zl ?_ _)); refine zw (cs := #[.string ((rd_T53 l0 x7_1).f0), .string ((rd_T53 l0 x7_1).f1), .int .i64 ((rd_T53 l0 x7_1).f2), .int .i64 ((rd_T53 l0 x7_1).f3), .int .i64 ((rd_T53 l0 x7_1).f4), .int .i64 ((rd_T53 l0 x7_1).f5), .int .i64 0]) ?_ 6 _ rfl; (with_reducible repeat (first | refine zn ?_ _ | refine zo ?_ | refine zl ?_ _)); refine zw (cs := #[.string ((rd_T53 l0 x7_1).f0), .string ((rd_T53 l0 x7_1).f1), .int .i64 ((rd_T53 l0 x7_1).f2), .int .i64 ((rd_T53 l0 x7_1).f3), .int .i64 ((rd_T53 l0 x7_1).f4), .int .i64 0, .int .i64 0]) ?_ 5 _ rfl; (with_reducible repeat (first | refine zn ?_ _ | refine zo ?_ | refine zl ?_ _)); refine zw (cs := #[.string ((rd_T53 l0 x7_1).f0), .string ((rd_T53 l0 x7_1).f1), .int .i64 ((rd_T53 l0 x7_1).f2), .int .i64 ((rd_T53 l0 x7_1).f3), .int .i64 0, .int .i64 0, .int .i64 0]) ?_ 4 _ rfl; (with_reducible repeat (first | refine zn ?_ _ | refine zo ?_ | refine zl ?_ _)); refine zw (cs := #[.string ((rd_T53 l0 x7_1).f0), .string ((rd_T53 l0 x7_1).f1), .int .i64 ((rd_T53 l0 x7_1).f2), .int .i64 0, .int .i64 0, .int .i64 0, .int .i64 0]) ?_ 3 _ rfl; (with_reducible repeat (first | refine zn ?_ _ | refine zo ?_ | refine zl ?_ _)); refine zw (cs := #[.string ((rd_T53 l0 x7_1).f0), .string ((rd_T53 l0 x7_1).f1), .int .i64 0, .int .i64 0, .int .i64 0, .int .i64 0, .int .i64 0]) ?_ 2 _ rfl; (with_reducible repeat (first | refine zn ?_ _ | refine zo ?_ | refine zl ?_ _)); refine zw (cs := #[.string ((rd_T53 l0 x7_1).f0), .string (⟨#[]⟩ : ByteArray), .int .i64 0, .int .i64 0, .int .i64 0, .int .i64 0, .int .i64 0]) ?_ 1 _ rfl; (with_reducible repeat (first | refine zn ?_ _ | refine zo ?_ | refine zl ?_ _)); refine zw (cs := #[.string (⟨#[]⟩ : ByteArray), .string (⟨#[]⟩ : ByteArray), .int .i64 0, .int .i64 0, .int .i64 0, .int .i64 0, .int .i64 0]) ?_ 0 _ rfl; (with_reducible repeat (first | refine zn ?_ _ | refine zo ?_ | refine zl ?_ _)); exact zy.out⟩
       have n1_ : Aside0 (Below w.heap.size w (((((((w27.setCell ⟨zx, 0, none⟩ (.string ((rd_T53 l0 x7_1).f0))).setCell ⟨zx, 1, none⟩ (.string ((rd_T53 l0 x7_1).f1))).setCell ⟨zx, 2, none⟩ (.int .i64 ((rd_T53 l0 x7_1).f2))).setCell ⟨zx, 3, none⟩ (.int .i64 ((rd_T53 l0 x7_1).f3))).setCell ⟨zx, 4, none⟩ (.int .i64 ((rd_T53 l0 x7_1).f4))).setCell ⟨zx, 5, none⟩ (.int .i64 ((rd_T53 l0 x7_1).f5))).setCell ⟨zx, 6, none⟩ (.int .i64 ((rd_T53 l0 x7_1).f6)))) := ⟨by repeat (first | (with_reducible first | exact HB.out | apply zg | apply zd | apply zf | refine zj ?_ zz.out) | exact HB.out)⟩
       (try clear zy)
       (try clear HB)
       generalize (((((((w27.setCell ⟨zx, 0, none⟩ (.string ((rd_T53 l0 x7_1).f0))).setCell ⟨zx, 1, none⟩ (.string ((rd_T53 l0 x7_1).f1))).setCell ⟨zx, 2, none⟩ (.int .i64 ((rd_T53 l0 x7_1).f2))).setCell ⟨zx, 3, none⟩ (.int .i64 ((rd_T53 l0 x7_1).f3))).setCell ⟨zx, 4, none⟩ (.int .i64 ((rd_T53 l0 x7_1).f4))).setCell ⟨zx, 5, none⟩ (.int .i64 ((rd_T53 l0 x7_1).f5))).setCell ⟨zx, 6, none⟩ (.int .i64 ((rd_T53 l0 x7_1).f6))) = w29 at n0_ n1_ ⊢
       have zy := n0_
       have HB := n1_
       clear n0_ n1_
       have n0_ := Aside0.mk (zo zy.out)
       have n1_ := Aside0.mk (zf HB.out)
       clear zy
       clear HB
       have zy := n0_
       have HB := n1_
       clear n0_ n1_
       refine start_ (n := 18) (S := fun w' => w'.cell? ⟨zx, 0, none⟩ = some (.string ((rd_T53 l0 x7_1).f0)) ∧ w'.cell? ⟨zx, 1, none⟩ = some (.string ((rd_T53 l0 x7_1).f1)) ∧ w'.cell? ⟨zx, 2, none⟩ = some (.int .i64 ((rd_T53 l0 x7_1).f2)) ∧ w'.cell? ⟨zx, 3, none⟩ = some (.int .i64 ((rd_T53 l0 x7_1).f3)) ∧ w'.cell? ⟨zx, 4, none⟩ = some (.int .i64 ((rd_T53 l0 x7_1).f4)) ∧ w'.cell? ⟨zx, 5, none⟩ = some (.int .i64 ((rd_T53 l0 x7_1).f5)) ∧ w'.cell? ⟨zx, 6, none⟩ = some (.int .i64 ((rd_T53 l0 x7_1).f6))) (ds := []) #[false, false, false, false, false, false, false, false, false, false, false, false, false, false, false, false, false, false] (by kernel_rfl) rfl rfl ⟨(ze zy.out 0).trans rfl, (ze zy.out 1).trans rfl, (ze zy.out 2).trans rfl, (ze zy.out 3).trans rfl, (ze zy.out 4).trans rfl, (ze zy.out 5).trans rfl, (ze zy.out 6).trans rfl⟩ (fun hHeld => ?_); refine with_tabW impl_nodesOk.tab4 impl_nodesOk.bits4 (fun HT_ HW_ => ?_)
       generalize w29.drew = w30 at zy HB hHeld ⊢
       refine take_ (i := 0) (N := some 12) (v := ?_) (a' := ?_) #[true, false, false, false, false, false, false, false, false, false, false, false, false, false, false, false, false, false] rfl rfl (take_ofW HT_.out HW_.out (by kernel_rfl)) (fun _ _ _ h => h) (Or.inl ⟨by rfl, ?_⟩) hHeld ?_ ?_
       rotate_left
       ·rintro w' ⟨s0, s1, s2, s3, s4, s5, s6⟩
        go_simp
        with_reducible rfl
       rotate_left
       ·simp only [Act.put, List.setIfInBounds_toArray, List.set_cons_zero, List.set_cons_succ, zq, zr]
        rfl
       refine one_ (i := 1) (N := some 13) #[true, true, false, false, false, false, false, false, false, false, false, false, false, false, false, false, false, false] rfl rfl (one_of HT_.out (by kernel_rfl)) (by decide) (fun K hK => ?_)
       refine goes_ Tryd.func56 (by kernel_rfl) rfl #[.agg #[.string ((rd_T53 l0 x7_1).f0), .string ((rd_T53 l0 x7_1).f1), .int .i64 ((rd_T53 l0 x7_1).f2), .int .i64 ((rd_T53 l0 x7_1).f3), .int .i64 ((rd_T53 l0 x7_1).f4), .int .i64 ((rd_T53 l0 x7_1).f5), .int .i64 ((rd_T53 l0 x7_1).f6)]] (by rfl) rfl rfl (by (try simp only [List.map_toArray, List.map_cons, List.map_nil]); first | done | rfl) ?_
       with_reducible refine (impl_Node_valid.calls k1 ((rd_T53 l0 x7_1).f0) ((rd_T53 l0 x7_1).f1) ((rd_T53 l0 x7_1).f2) ((rd_T53 l0 x7_1).f3) ((rd_T53 l0 x7_1).f4) ((rd_T53 l0 x7_1).f5) ((rd_T53 l0 x7_1).f6) false _ A5.out ?globMAX_).mono ?_; (case globMAX_ => exact Go.Proofs.YtejecjjimggjeaaDoorH.GFMAX.below HGMAX_.out (by repeat (first | (with_reducible first | exact HB.out | exact Below.refl _ _ | apply zg | apply zd | apply zf | refine zj ?_ (Aside0.out (by assumption))) | exact HB.out)))
       rintro e w31 ⟨rfl, hb⟩
       refine ⟨_, rfl, ?_⟩
       have n0_ := Aside0.mk (zm (g := zx) (o := .cells #[.string ((rd_T53 l0 x7_1).f0), .string ((rd_T53 l0 x7_1).f1), .int .i64 ((rd_T53 l0 x7_1).f2), .int .i64 ((rd_T53 l0 x7_1).f3), .int .i64 ((rd_T53 l0 x7_1).f4), .int .i64 ((rd_T53 l0 x7_1).f5), .int .i64 ((rd_T53 l0 x7_1).f6)] 53 (0, 0)) (BL zy.out) hb)
       have n1_ := Aside0.mk (zi (by repeat (first | (with_reducible first | exact HB.out | apply zg | apply zd | apply zf | refine zj ?_ zz.out) | exact HB.out)) hb)
       clear zy
       clear HB
       have zy := n0_
       have HB := n1_
       clear n0_ n1_
       (try clear hb)
       (try clear hb2)
       (try clear hk)
       (try clear hi)
       refine hK.out _ _ ⟨(ze zy.out 0).trans rfl, (ze zy.out 1).trans rfl, (ze zy.out 2).trans rfl, (ze zy.out 3).trans rfl, (ze zy.out 4).trans rfl, (ze zy.out 5).trans rfl, (ze zy.out 6).trans rfl⟩ (fun hHeld => ?_)
       clear hK K
       refine norm_ (a' := ?_) ?_ ?_
       rotate_left
       ·show Act.put _ (some 13) _ = _
        simp only [Act.put, List.setIfInBounds_toArray, List.set_cons_zero, List.set_cons_succ, zq, zr]
        rfl
       refine zt (i := 2) (N := some 14) (v := ?_) (a' := ?_) #[true, true, true, false, false, false, false, false, false, false, false, false, false, false, false, false, false, false] rfl rfl (zp HT_.out (by kernel_rfl)) (fun _ _ _ h => h) (Or.inl ⟨by rfl, ?_⟩) ?_ ?_
       rotate_left
       ·intro w'
        go_simp
        with_reducible rfl
       rotate_left
       ·simp only [Act.put, List.setIfInBounds_toArray, List.set_cons_zero, List.set_cons_succ, zq, zr]
        rfl
       refine zt (i := 3) (N := some 15) (v := ?_) (a' := ?_) #[true, true, true, true, false, false, false, false, false, false, false, false, false, false, false, false, false, false] rfl rfl (zp HT_.out (by kernel_rfl)) (fun _ _ _ h => h) (Or.inl ⟨by rfl, ?_⟩) ?_ ?_
       rotate_left
       ·intro w'
        go_simp
        with_reducible rfl
       rotate_left
       ·simp only [Act.put, List.setIfInBounds_toArray, List.set_cons_zero, List.set_cons_succ, zq, zr]
        rfl
       refine zt (i := 4) (N := some 16) (v := undef) (a' := ?_) #[true, true, true, true, true, false, false, false, false, false, false, false, false, false, false, false, false, false] rfl rfl (zp HT_.out (by kernel_rfl)) (fun _ _ _ h => h) (Or.inr ⟨by rfl, rfl⟩) ?_ ?_
       rotate_left
       ·simp only [Act.put, List.setIfInBounds_toArray, List.set_cons_zero, List.set_cons_succ, zq, zr]
        rfl
       refine zt (i := 5) (N := some 17) (v := undef) (a' := ?_) #[true, true, true, true, true, true, false, false, false, false, false, false, false, false, false, false, false, false] rfl rfl (zp HT_.out (by kernel_rfl)) (fun _ _ _ h => h) (Or.inr ⟨by rfl, rfl⟩) ?_ ?_
       rotate_left
       ·simp only [Act.put, List.setIfInBounds_toArray, List.set_cons_zero, List.set_cons_succ, zq, zr]
        rfl
       refine zt (i := 6) (N := some 18) (v := undef) (a' := ?_) #[true, true, true, true, true, true, true, false, false, false, false, false, false, false, false, false, false, false] rfl rfl (zp HT_.out (by kernel_rfl)) (fun _ _ _ h => h) (Or.inr ⟨by rfl, rfl⟩) ?_ ?_
       rotate_left
       ·simp only [Act.put, List.setIfInBounds_toArray, List.set_cons_zero, List.set_cons_succ, zq, zr]
        rfl
       refine zt (i := 7) (N := some 19) (v := undef) (a' := ?_) #[true, true, true, true, true, true, true, true, false, false, false, false, false, false, false, false, false, false] rfl rfl (zp HT_.out (by kernel_rfl)) (fun _ _ _ h => h) (Or.inr ⟨by rfl, rfl⟩) ?_ ?_
       rotate_left
       ·simp only [Act.put, List.setIfInBounds_toArray, List.set_cons_zero, List.set_cons_succ, zq, zr]
        rfl
       refine zt (i := 8) (N := some 20) (v := undef) (a' := ?_) #[true, true, true, true, true, true, true, true, true, false, false, false, false, false, false, false, false, false] rfl rfl (zp HT_.out (by kernel_rfl)) (fun _ _ _ h => h) (Or.inr ⟨by rfl, rfl⟩) ?_ ?_
       rotate_left
       ·simp only [Act.put, List.setIfInBounds_toArray, List.set_cons_zero, List.set_cons_succ, zq, zr]
        rfl
       refine zt (i := 9) (N := some 21) (v := undef) (a' := ?_) #[true, true, true, true, true, true, true, true, true, true, false, false, false, false, false, false, false, false] rfl rfl (zp HT_.out (by kernel_rfl)) (fun _ _ _ h => h) (Or.inr ⟨by rfl, rfl⟩) ?_ ?_
       rotate_left
       ·simp only [Act.put, List.setIfInBounds_toArray, List.set_cons_zero, List.set_cons_succ, zq, zr]
        rfl
       refine zt (i := 10) (N := some 22) (v := undef) (a' := ?_) #[true, true, true, true, true, true, true, true, true, true, true, false, false, false, false, false, false, false] rfl rfl (zp HT_.out (by kernel_rfl)) (fun _ _ _ h => h) (Or.inr ⟨by rfl, rfl⟩) ?_ ?_
       rotate_left
       ·simp only [Act.put, List.setIfInBounds_toArray, List.set_cons_zero, List.set_cons_succ, zq, zr]
        rfl
       refine zt (i := 11) (N := some 23) (v := undef) (a' := ?_) #[true, true, true, true, true, true, true, true, true, true, true, true, false, false, false, false, false, false] rfl rfl (zp HT_.out (by kernel_rfl)) (fun _ _ _ h => h) (Or.inr ⟨by rfl, rfl⟩) ?_ ?_
       rotate_left
       ·simp only [Act.put, List.setIfInBounds_toArray, List.set_cons_zero, List.set_cons_succ, zq, zr]
        rfl
       refine zt (i := 12) (N := some 24) (v := undef) (a' := ?_) #[true, true, true, true, true, true, true, true, true, true, true, true, true, false, false, false, false, false] rfl rfl (zp HT_.out (by kernel_rfl)) (fun _ _ _ h => h) (Or.inr ⟨by rfl, rfl⟩) ?_ ?_
       rotate_left
       ·simp only [Act.put, List.setIfInBounds_toArray, List.set_cons_zero, List.set_cons_succ, zq, zr]
        rfl
       refine zt (i := 13) (N := some 25) (v := undef) (a' := ?_) #[true, true, true, true, true, true, true, true, true, true, true, true, true, true, false, false, false, false] rfl rfl (zp HT_.out (by kernel_rfl)) (fun _ _ _ h => h) (Or.inr ⟨by rfl, rfl⟩) ?_ ?_
       rotate_left
       ·simp only [Act.put, List.setIfInBounds_toArray, List.set_cons_zero, List.set_cons_succ, zq, zr]
        rfl
       refine zt (i := 14) (N := some 26) (v := undef) (a' := ?_) #[true, true, true, true, true, true, true, true, true, true, true, true, true, true, true, false, false, false] rfl rfl (zp HT_.out (by kernel_rfl)) (fun _ _ _ h => h) (Or.inr ⟨by rfl, rfl⟩) ?_ ?_
       rotate_left
       ·simp only [Act.put, List.setIfInBounds_toArray, List.set_cons_zero, List.set_cons_succ, zq, zr]
        rfl
       refine zt (i := 15) (N := some 27) (v := undef) (a' := ?_) #[true, true, true, true, true, true, true, true, true, true, true, true, true, true, true, true, false, false] rfl rfl (zp HT_.out (by kernel_rfl)) (fun _ _ _ h => h) (Or.inr ⟨by rfl, rfl⟩) ?_ ?_
       rotate_left
       ·simp only [Act.put, List.setIfInBounds_toArray, List.set_cons_zero, List.set_cons_succ, zq, zr]
        rfl
       refine zt (i := 16) (N := some 28) (v := undef) (a' := ?_) #[true, true, true, true, true, true, true, true, true, true, true, true, true, true, true, true, true, false] rfl rfl (zp HT_.out (by kernel_rfl)) (fun _ _ _ h => h) (Or.inr ⟨by rfl, rfl⟩) ?_ ?_
       rotate_left
       ·simp only [Act.put, List.setIfInBounds_toArray, List.set_cons_zero, List.set_cons_succ, zq, zr]
        rfl
       refine zt (i := 17) (N := some 29) (v := ?_) (a' := ?_) #[true, true, true, true, true, true, true, true, true, true, true, true, true, true, true, true, true, true] rfl rfl (zp HT_.out (by kernel_rfl)) (fun _ _ _ h => h) (Or.inl ⟨by rfl, ?_⟩) ?_ ?_
       rotate_left
       ·intro w'
        go_simp
        with_reducible rfl
       rotate_left
       ·simp only [Act.put, List.setIfInBounds_toArray, List.set_cons_zero, List.set_cons_succ, zq, zr]
        rfl
       refine done_ (done_of HT_.out (by kernel_rfl)) ?_
       try go_wp2
       go_ret
       exact ⟨by first | rfl | (simp [errW_none, errW_some] <;> rfl) | (simp [*, errW_none, errW_some] <;> rfl), by repeat (first | (with_reducible first | exact HB.out | apply zg | apply zd | apply zf | refine zj ?_ zz.out) | exact HB.out)⟩
     ·rw [if_neg c4] at H
      exact absurd H (by simp)
    ·rw [if_neg c3] at H
     exact absurd H (by simp)
   ·rw [if_neg c2] at H
    have c2b0 : decide (x7_1 < (l0.length : Int)) = false := decide_eq_false c2
    clear c2
    obtain rfl := Option.some.inj H
    go_wp2
    go_ret
    exact ⟨by first | rfl | (simp [errW_none, errW_some] <;> rfl) | (simp [*, errW_none, errW_some] <;> rfl), by repeat (first | (with_reducible first | exact HB.out | apply zg | apply zd | apply zf) | exact HB.out)⟩

end Go.Proofs.YtejecjjimggjeaaDoor.GFnExactChildren
