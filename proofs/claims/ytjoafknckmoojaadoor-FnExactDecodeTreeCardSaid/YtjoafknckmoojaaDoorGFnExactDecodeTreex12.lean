/- Written by give.py, a program of this session, that runs the kit's print and lays contracts proved by hand beside it. -/
import Derived.Test.YtjoafknckmoojaaDoorGFnExactDecodeTreex0
import Derived.Test.YtjoafknckmoojaaDoorGFnExactDecodeTreex11
namespace Go.Proofs.YtjoafknckmoojaaDoor.GFnExactDecodeTree
open Go.RowKit Go.Proofs.YtjoafknckmoojaaDoorW.PrintWords Go.Proofs.YtjoafknckmoojaaDoorW.PrintLast Go.Proofs.YtjoafknckmoojaaDoorW.PrintMore
attribute [local go_sem] max2_int min2_int max_two min_two max_three min_three max_four min_four
attribute [local go_sem high] Go.Proofs.YtjoafknckmoojaaDoorH.str_leq Go.Proofs.YtjoafknckmoojaaDoorH.str_geq Go.Proofs.YtjoafknckmoojaaDoorH.str_gtr
set_option linter.unusedVariables false
set_option linter.unusedSimpArgs false

def laws_heldNodeS.l0 : Nat → List (S92) → Int → Int → Option (Int)
 | 0, _, _, _ => none
 | k + 1, x0, x1, x5 => if x5 < (x0.length : Int) then (if 0 ≤ x5 then ((laws_markText.f k x1).bind fun t222 => (if ((rd_T92 x0 x5).f0).toList = t222.toList then ((laws_markText.f k (wrap64 (x1 + 1))).bind fun t224 => (if ((rd_T92 x0 x5).f1).toList = t224.toList then (if ((rd_T92 x0 x5).f2) = (wrap64 ((wrap64 (x1 + 1)) + 1)) then (if ((rd_T92 x0 x5).f3) = (wrap64 ((wrap64 ((wrap64 (x1 + 1)) + 1)) + 1)) then (if ((rd_T92 x0 x5).f4) = (wrap64 ((wrap64 ((wrap64 ((wrap64 (x1 + 1)) + 1)) + 1)) + 1)) then (if ((rd_T92 x0 x5).f5) = (wrap64 ((wrap64 ((wrap64 ((wrap64 ((wrap64 (x1 + 1)) + 1)) + 1)) + 1)) + 1)) then (if ((rd_T92 x0 x5).f6) = (wrap64 ((wrap64 ((wrap64 ((wrap64 ((wrap64 ((wrap64 (x1 + 1)) + 1)) + 1)) + 1)) + 1)) + 1)) then (laws_heldNodeS.l0 k x0 (wrap64 ((wrap64 ((wrap64 ((wrap64 ((wrap64 ((wrap64 ((wrap64 (x1 + 1)) + 1)) + 1)) + 1)) + 1)) + 1)) + 1)) (wrap64 (x5 + 1))) else (some (-1))) else (some (-1))) else (some (-1))) else (some (-1))) else (some (-1))) else (some (-1)))) else (some (-1)))) else (none)) else (some x1)
def laws_heldNodeS.f (k : Nat) (l0 : List (S92)) (a1 : Int) : Option (Int) := laws_heldNodeS.l0 k l0 a1 0
theorem laws_heldNodeS.mono_l : ∀ k, (∀ y0 y1 y2, LeO (laws_heldNodeS.l0 k y0 y1 y2) (laws_heldNodeS.l0 (k + 1) y0 y1 y2))
 | 0 => fun _ _ _ r h => by simp [laws_heldNodeS.l0] at h
 | k + 1 => by
  have ih0 := laws_heldNodeS.mono_l k
  ·intro y0 y1 y2
   unfold laws_heldNodeS.l0
   repeat' first
   | (with_reducible exact ih0 _ _ _)
   | (with_reducible exact laws_markText.mono _ _)
   | (with_reducible exact LeO.refl _)
   | (with_reducible exact LeO.none _)
   | (with_reducible refine LeO.ite ?_ ?_)
   | (with_reducible refine LeO.bind ?_ (fun _ => ?_))
   | exact ih0 _ _ _
   | exact laws_markText.mono _ _
   | exact LeO.none _
   | refine LeO.ite ?_ ?_
   | refine LeO.bind ?_ (fun _ => ?_)
theorem laws_heldNodeS.mono : ∀ a0 a1 k, LeO (laws_heldNodeS.f k a0 a1) (laws_heldNodeS.f (k + 1) a0 a1) := by
 intro a0 a1 k
 have ih0 := laws_heldNodeS.mono_l k
 unfold laws_heldNodeS.f
 repeat' first
   | (with_reducible exact ih0 _ _ _)
   | (with_reducible exact laws_markText.mono _ _)
   | (with_reducible exact LeO.refl _)
   | (with_reducible exact LeO.none _)
   | (with_reducible refine LeO.ite ?_ ?_)
   | (with_reducible refine LeO.bind ?_ (fun _ => ?_))
   | exact ih0 _ _ _
   | exact laws_markText.mono _ _
   | exact LeO.none _
   | refine LeO.ite ?_ ?_
   | refine LeO.bind ?_ (fun _ => ?_)
def laws_heldNodeS.T4 : Bool × List (List Nat × List Nat) := (true, [([], []), ([], []), ([0, 1], [0, 1]), ([2], [2]), ([3], [3]), ([], []), ([5], [5]), ([4, 6], [4, 6])])
def laws_heldNodeS.B4 : List Nat := [0, 0, 3, 7, 15, 0, 32, 127]
theorem laws_heldNodeS.tab4 : rtab .any (opsOf Tryd.f119 4) = laws_heldNodeS.T4 := by kernel_rfl
theorem laws_heldNodeS.bits4 : waitsOk laws_heldNodeS.T4.2 laws_heldNodeS.B4 = true := by kernel_rfl
def laws_heldNodeS.T7 : Bool × List (List Nat × List Nat) := (true, [([], []), ([], []), ([0, 1], [0, 1]), ([2], [2]), ([3], [3]), ([], []), ([5], [5]), ([4, 6], [4, 6])])
def laws_heldNodeS.B7 : List Nat := [0, 0, 3, 7, 15, 0, 32, 127]
theorem laws_heldNodeS.tab7 : rtab .any (opsOf Tryd.f119 7) = laws_heldNodeS.T7 := by kernel_rfl
theorem laws_heldNodeS.bits7 : waitsOk laws_heldNodeS.T7.2 laws_heldNodeS.B7 = true := by kernel_rfl
set_option maxHeartbeats 8000000 in
set_option maxRecDepth 100000 in
theorem laws_heldNodeS.calls (k : Nat) (A0 : Option Addr) (c0 : Nat) (l0 : List (S92)) (a1 : Int) (r : Int) (w : World) (hr0 : Kd.C k92 w A0 l0.length l0) (hc0 : l0.length ≤ c0) (h : laws_heldNodeS.f k l0 a1 = some r) :
  Calls Tryd.prog 119 #[.slice A0 l0.length c0, .int .i64 a1] w fun e w' => e = .returned (.int .i64 r) ∧ Below w.heap.size w w' := by
 have HR0 := Aside0.mk hr0
 have HC0 := Aside0.mk hc0
 clear hr0 hc0
 have HB := Aside0.mk (Below.refl w.heap.size w)
 have H : (laws_heldNodeS.l0 k l0 a1 0) = some r := h
 clear h
 have H' := Aside0.mk H
 clear H
 go_enter Tryd.func119, Tryd.ntmps119
 go_wp2
 go_loopg [1, 5] k (fun kq v1 v5 w' => ∃ (x1_1 : Int) (x5_1 : Int), v1 = .int .i64 x1_1 ∧ v5 = .int .i64 x5_1 ∧ Aside0 (laws_heldNodeS.l0 kq l0 x1_1 x5_1 = some r) ∧ Aside0 (kq ≤ k) ∧ Aside0 (Below w.heap.size w w'))
 case atStart => exact ⟨(a1), (0), (by first | rfl | (simp; done) | (simp [*]; done)), (by first | rfl | (simp; done) | (simp [*]; done)), H', ⟨Nat.le_refl _⟩, ⟨by repeat (first | (with_reducible first | exact HB.out | apply ze | apply zc | apply zd) | exact HB.out)⟩⟩
 case round =>
  clear H'
  try clear c1
  try clear p2
  obtain ⟨x1_1, x5_1, rfl, rfl, HA, HK1, HB⟩ := hrel
  cases gk with
  | zero => exact absurd HA.out (by simp [laws_heldNodeS.l0])
  | succ k1 =>
   have H := HA.out
   clear HA
   simp only [laws_heldNodeS.l0] at H
   by_cases c3 : x5_1 < (l0.length : Int)
   ·rw [if_pos c3] at H
    have c3b0 : decide (x5_1 < (l0.length : Int)) = true := decide_eq_true c3
    clear c3
    by_cases c4 : 0 ≤ x5_1
    ·rw [if_pos c4] at H
     have c4b0 : decide (0 ≤ x5_1) = true := decide_eq_true c4
     clear c4
     replace H := Option.bind_eq_some_iff.mp H
     obtain ⟨t222, A50, H⟩ := H
     replace H : (if ((rd_T92 l0 x5_1).f0).toList = t222.toList then ((laws_markText.f k1 (wrap64 (x1_1 + 1))).bind fun t224 => (if ((rd_T92 l0 x5_1).f1).toList = t224.toList then (if ((rd_T92 l0 x5_1).f2) = (wrap64 ((wrap64 (x1_1 + 1)) + 1)) then (if ((rd_T92 l0 x5_1).f3) = (wrap64 ((wrap64 ((wrap64 (x1_1 + 1)) + 1)) + 1)) then (if ((rd_T92 l0 x5_1).f4) = (wrap64 ((wrap64 ((wrap64 ((wrap64 (x1_1 + 1)) + 1)) + 1)) + 1)) then (if ((rd_T92 l0 x5_1).f5) = (wrap64 ((wrap64 ((wrap64 ((wrap64 ((wrap64 (x1_1 + 1)) + 1)) + 1)) + 1)) + 1)) then (if ((rd_T92 l0 x5_1).f6) = (wrap64 ((wrap64 ((wrap64 ((wrap64 ((wrap64 ((wrap64 (x1_1 + 1)) + 1)) + 1)) + 1)) + 1)) + 1)) then (laws_heldNodeS.l0 k1 l0 (wrap64 ((wrap64 ((wrap64 ((wrap64 ((wrap64 ((wrap64 ((wrap64 (x1_1 + 1)) + 1)) + 1)) + 1)) + 1)) + 1)) + 1)) (wrap64 (x5_1 + 1))) else (some (-1))) else (some (-1))) else (some (-1))) else (some (-1))) else (some (-1))) else (some (-1)))) else (some (-1))) = some r := H
     have A5 := Aside0.mk A50
     clear A50
     by_cases c6 : ((rd_T92 l0 x5_1).f0).toList = t222.toList
     ·rw [if_pos c6] at H
      have c6b0 : (((rd_T92 l0 x5_1).f0).toList == t222.toList) = true := beq_iff_eq.mpr c6
      have c6b1 : (((rd_T92 l0 x5_1).f0).toList != t222.toList) = false := bne_eq_false_iff_eq.mpr c6
      clear c6
      replace H := Option.bind_eq_some_iff.mp H
      obtain ⟨t224, A70, H⟩ := H
      replace H : (if ((rd_T92 l0 x5_1).f1).toList = t224.toList then (if ((rd_T92 l0 x5_1).f2) = (wrap64 ((wrap64 (x1_1 + 1)) + 1)) then (if ((rd_T92 l0 x5_1).f3) = (wrap64 ((wrap64 ((wrap64 (x1_1 + 1)) + 1)) + 1)) then (if ((rd_T92 l0 x5_1).f4) = (wrap64 ((wrap64 ((wrap64 ((wrap64 (x1_1 + 1)) + 1)) + 1)) + 1)) then (if ((rd_T92 l0 x5_1).f5) = (wrap64 ((wrap64 ((wrap64 ((wrap64 ((wrap64 (x1_1 + 1)) + 1)) + 1)) + 1)) + 1)) then (if ((rd_T92 l0 x5_1).f6) = (wrap64 ((wrap64 ((wrap64 ((wrap64 ((wrap64 ((wrap64 (x1_1 + 1)) + 1)) + 1)) + 1)) + 1)) + 1)) then (laws_heldNodeS.l0 k1 l0 (wrap64 ((wrap64 ((wrap64 ((wrap64 ((wrap64 ((wrap64 ((wrap64 (x1_1 + 1)) + 1)) + 1)) + 1)) + 1)) + 1)) + 1)) (wrap64 (x5_1 + 1))) else (some (-1))) else (some (-1))) else (some (-1))) else (some (-1))) else (some (-1))) else (some (-1))) = some r := H
      have A7 := Aside0.mk A70
      clear A70
      by_cases c8 : ((rd_T92 l0 x5_1).f1).toList = t224.toList
      ·rw [if_pos c8] at H
       have c8b0 : (((rd_T92 l0 x5_1).f1).toList == t224.toList) = true := beq_iff_eq.mpr c8
       have c8b1 : (((rd_T92 l0 x5_1).f1).toList != t224.toList) = false := bne_eq_false_iff_eq.mpr c8
       clear c8
       by_cases c9 : ((rd_T92 l0 x5_1).f2) = (wrap64 ((wrap64 (x1_1 + 1)) + 1))
       ·rw [if_pos c9] at H
        have c9b0 : (((rd_T92 l0 x5_1).f2) == (wrap64 ((wrap64 (x1_1 + 1)) + 1))) = true := beq_iff_eq.mpr c9
        have c9b1 : (((rd_T92 l0 x5_1).f2) != (wrap64 ((wrap64 (x1_1 + 1)) + 1))) = false := bne_eq_false_iff_eq.mpr c9
        clear c9
        by_cases c10 : ((rd_T92 l0 x5_1).f3) = (wrap64 ((wrap64 ((wrap64 (x1_1 + 1)) + 1)) + 1))
        ·rw [if_pos c10] at H
         have c10b0 : (((rd_T92 l0 x5_1).f3) == (wrap64 ((wrap64 ((wrap64 (x1_1 + 1)) + 1)) + 1))) = true := beq_iff_eq.mpr c10
         have c10b1 : (((rd_T92 l0 x5_1).f3) != (wrap64 ((wrap64 ((wrap64 (x1_1 + 1)) + 1)) + 1))) = false := bne_eq_false_iff_eq.mpr c10
         clear c10
         by_cases c11 : ((rd_T92 l0 x5_1).f4) = (wrap64 ((wrap64 ((wrap64 ((wrap64 (x1_1 + 1)) + 1)) + 1)) + 1))
         ·rw [if_pos c11] at H
          have c11b0 : (((rd_T92 l0 x5_1).f4) == (wrap64 ((wrap64 ((wrap64 ((wrap64 (x1_1 + 1)) + 1)) + 1)) + 1))) = true := beq_iff_eq.mpr c11
          have c11b1 : (((rd_T92 l0 x5_1).f4) != (wrap64 ((wrap64 ((wrap64 ((wrap64 (x1_1 + 1)) + 1)) + 1)) + 1))) = false := bne_eq_false_iff_eq.mpr c11
          clear c11
          by_cases c12 : ((rd_T92 l0 x5_1).f5) = (wrap64 ((wrap64 ((wrap64 ((wrap64 ((wrap64 (x1_1 + 1)) + 1)) + 1)) + 1)) + 1))
          ·rw [if_pos c12] at H
           have c12b0 : (((rd_T92 l0 x5_1).f5) == (wrap64 ((wrap64 ((wrap64 ((wrap64 ((wrap64 (x1_1 + 1)) + 1)) + 1)) + 1)) + 1))) = true := beq_iff_eq.mpr c12
           have c12b1 : (((rd_T92 l0 x5_1).f5) != (wrap64 ((wrap64 ((wrap64 ((wrap64 ((wrap64 (x1_1 + 1)) + 1)) + 1)) + 1)) + 1))) = false := bne_eq_false_iff_eq.mpr c12
           clear c12
           by_cases c13 : ((rd_T92 l0 x5_1).f6) = (wrap64 ((wrap64 ((wrap64 ((wrap64 ((wrap64 ((wrap64 (x1_1 + 1)) + 1)) + 1)) + 1)) + 1)) + 1))
           ·rw [if_pos c13] at H
            have c13b0 : (((rd_T92 l0 x5_1).f6) == (wrap64 ((wrap64 ((wrap64 ((wrap64 ((wrap64 ((wrap64 (x1_1 + 1)) + 1)) + 1)) + 1)) + 1)) + 1))) = true := beq_iff_eq.mpr c13
            have c13b1 : (((rd_T92 l0 x5_1).f6) != (wrap64 ((wrap64 ((wrap64 ((wrap64 ((wrap64 ((wrap64 (x1_1 + 1)) + 1)) + 1)) + 1)) + 1)) + 1))) = false := bne_eq_false_iff_eq.mpr c13
            clear c13
            have H' := Aside0.mk H
            clear H
            try go_wp2
            have n0_ := Aside0.mk (zd HB.out)
            clear HB
            have HB := n0_
            clear n0_
            have p221 : 0 ≤ (x5_1 : Int) := of_decide_eq_true (by first | (with_reducible assumption) | assumption)
            have q221 : x5_1 < (l0.length : Int) := of_decide_eq_true (by first | (with_reducible assumption) | assumption)
            obtain ⟨ad221, e221, hx221_0, hx221_1, hx221_2, hx221_3, hx221_4, hx221_5, hx221_6⟩ := at_T92 HR0.out x5_1 p221 q221
            have hw221_6 := hx221_6
            have hw221_5 := hx221_5
            have hw221_4 := hx221_4
            have hw221_3 := hx221_3
            have hw221_2 := hx221_2
            have hw221_1 := hx221_1
            have hw221_0 := hx221_0
            cases e221
            replace hx221_0 := zb HB.out hx221_0
            replace hx221_1 := zb HB.out hx221_1
            replace hx221_2 := zb HB.out hx221_2
            replace hx221_3 := zb HB.out hx221_3
            replace hx221_4 := zb HB.out hx221_4
            replace hx221_5 := zb HB.out hx221_5
            replace hx221_6 := zb HB.out hx221_6
            replace p221 := eq_true p221
            replace q221 := eq_true q221
            refine start_ (n := 8) (S := fun w' => w'.cell? (ad221.add ((x5_1).toNat * 7)) = some (.string ((rd_T92 l0 x5_1).f0)) ∧ w'.cell? ⟨(ad221.add ((x5_1).toNat * 7)).block, (ad221.add ((x5_1).toNat * 7)).off + 1, none⟩ = some (.string ((rd_T92 l0 x5_1).f1)) ∧ w'.cell? ⟨(ad221.add ((x5_1).toNat * 7)).block, (ad221.add ((x5_1).toNat * 7)).off + 2, none⟩ = some (.int .i64 ((rd_T92 l0 x5_1).f2)) ∧ w'.cell? ⟨(ad221.add ((x5_1).toNat * 7)).block, (ad221.add ((x5_1).toNat * 7)).off + 3, none⟩ = some (.int .i64 ((rd_T92 l0 x5_1).f3)) ∧ w'.cell? ⟨(ad221.add ((x5_1).toNat * 7)).block, (ad221.add ((x5_1).toNat * 7)).off + 4, none⟩ = some (.int .i64 ((rd_T92 l0 x5_1).f4)) ∧ w'.cell? ⟨(ad221.add ((x5_1).toNat * 7)).block, (ad221.add ((x5_1).toNat * 7)).off + 5, none⟩ = some (.int .i64 ((rd_T92 l0 x5_1).f5)) ∧ w'.cell? ⟨(ad221.add ((x5_1).toNat * 7)).block, (ad221.add ((x5_1).toNat * 7)).off + 6, none⟩ = some (.int .i64 ((rd_T92 l0 x5_1).f6))) (ds := []) #[false, false, false, false, false, false, false, false] (by kernel_rfl) rfl rfl ⟨(zb HB.out hw221_0), (zb HB.out hw221_1), (zb HB.out hw221_2), (zb HB.out hw221_3), (zb HB.out hw221_4), (zb HB.out hw221_5), (zb HB.out hw221_6)⟩ (fun hHeld => ?_); refine with_tabW laws_heldNodeS.tab4 laws_heldNodeS.bits4 (fun HT_ HW_ => ?_)
            generalize wr.drew = w14 at HB hx221_0 hx221_1 hx221_2 hx221_3 hx221_4 hx221_5 hx221_6 hHeld ⊢
            refine zr (i := 0) (N := some 12) (v := ?_) (a' := ?_) #[true, false, false, false, false, false, false, false] rfl rfl (zn HT_.out (by kernel_rfl)) (fun _ _ _ h => h) (Or.inl ⟨by rfl, ?_⟩) ?_ ?_
            rotate_left
            ·intro w'
             go_simp
             with_reducible rfl
            rotate_left
            ·simp only [Act.put, List.setIfInBounds_toArray, List.set_cons_zero, List.set_cons_succ, zo, zp]
             rfl
            refine zr (i := 1) (N := some 13) (v := ?_) (a' := ?_) #[true, true, false, false, false, false, false, false] rfl rfl (zn HT_.out (by kernel_rfl)) (fun _ _ _ h => h) (Or.inl ⟨by rfl, ?_⟩) ?_ ?_
            rotate_left
            ·intro w'
             go_simp
             with_reducible rfl
            rotate_left
            ·simp only [Act.put, List.setIfInBounds_toArray, List.set_cons_zero, List.set_cons_succ, zo, zp]
             rfl
            refine zr (i := 2) (N := some 14) (v := ?_) (a' := ?_) #[true, true, true, false, false, false, false, false] rfl rfl (zn HT_.out (by kernel_rfl)) (fun _ _ _ h => h) (Or.inl ⟨by rfl, ?_⟩) ?_ ?_
            rotate_left
            ·intro w'
             go_simp
             with_reducible rfl
            rotate_left
            ·simp only [Act.put, List.setIfInBounds_toArray, List.set_cons_zero, List.set_cons_succ, zo, zp]
             rfl
            refine zr (i := 3) (N := some 15) (v := ?_) (a' := ?_) #[true, true, true, true, false, false, false, false] rfl rfl (zn HT_.out (by kernel_rfl)) (fun _ _ _ h => h) (Or.inl ⟨by rfl, ?_⟩) ?_ ?_
            rotate_left
            ·intro w'
             go_simp
             with_reducible rfl
            rotate_left
            ·simp only [Act.put, List.setIfInBounds_toArray, List.set_cons_zero, List.set_cons_succ, zo, zp]
             rfl
            refine zr (i := 5) (N := some 17) (v := ?_) (a' := ?_) #[true, true, true, true, false, true, false, false] rfl rfl (zn HT_.out (by kernel_rfl)) (fun _ _ _ h => h) (Or.inl ⟨by rfl, ?_⟩) ?_ ?_
            rotate_left
            ·intro w'
             go_simp
             with_reducible rfl
            rotate_left
            ·simp only [Act.put, List.setIfInBounds_toArray, List.set_cons_zero, List.set_cons_succ, zo, zp]
             rfl
            refine take_ (i := 4) (N := some 16) (v := ?_) (a' := ?_) #[true, true, true, true, true, true, false, false] rfl rfl (zA HT_.out HW_.out (by kernel_rfl)) (fun _ _ _ h => h) (Or.inl ⟨by rfl, ?_⟩) hHeld ?_ ?_
            rotate_left
            ·rintro w' ⟨s0, s1, s2, s3, s4, s5, s6⟩
             go_simp
             with_reducible rfl
            rotate_left
            ·simp only [Act.put, List.setIfInBounds_toArray, List.set_cons_zero, List.set_cons_succ, zo, zp]
             rfl
            refine one_ (i := 6) (N := some 18) #[true, true, true, true, true, true, true, false] rfl rfl (one_of HT_.out (by kernel_rfl)) (by decide) (fun K hK => ?_)
            refine goes_ Tryd.func101 (by kernel_rfl) rfl #[.int .i64 x1_1] (by rfl) rfl rfl (by (try simp only [List.map_toArray, List.map_cons, List.map_nil]); first | done | rfl | (simp only [List.length_drop, List.length_take]; rfl)) ?_
            with_reducible refine (laws_markText.calls k1 x1_1 t222 _ A5.out).mono ?_
            rintro e w15 ⟨rfl, hb⟩
            refine ⟨_, rfl, ?_⟩
            have n0_ := Aside0.mk (zl (by repeat (first | (with_reducible first | exact HB.out | apply ze | apply zc | apply zd) | exact HB.out)) hb)
            clear HB
            have HB := n0_
            clear n0_
            (try clear hb)
            (try clear hb2)
            (try clear hk)
            (try clear hi)
            refine hK.out _ _ ⟨(zb HB.out hw221_0), (zb HB.out hw221_1), (zb HB.out hw221_2), (zb HB.out hw221_3), (zb HB.out hw221_4), (zb HB.out hw221_5), (zb HB.out hw221_6)⟩ (fun hHeld => ?_)
            clear hK K
            refine norm_ (a' := ?_) ?_ ?_
            rotate_left
            ·show Act.put _ (some 18) _ = _
             simp only [Act.put, List.setIfInBounds_toArray, List.set_cons_zero, List.set_cons_succ, zo, zp]
             rfl
            refine zr (i := 7) (N := some 19) (v := ?_) (a' := ?_) #[true, true, true, true, true, true, true, true] rfl rfl (zn HT_.out (by kernel_rfl)) (fun _ _ _ h => h) (Or.inl ⟨by rfl, ?_⟩) ?_ ?_
            rotate_left
            ·intro w'
             go_simp
             with_reducible rfl
            rotate_left
            ·simp only [Act.put, List.setIfInBounds_toArray, List.set_cons_zero, List.set_cons_succ, zo, zp]
             rfl
            refine done_ (done_of HT_.out (by kernel_rfl)) ?_
            try go_wp2
            have n0_ := Aside0.mk (zd HB.out)
            clear HB
            have HB := n0_
            clear n0_
            have p223 : 0 ≤ (x5_1 : Int) := of_decide_eq_true (by first | (with_reducible assumption) | assumption)
            have q223 : x5_1 < (l0.length : Int) := of_decide_eq_true (by first | (with_reducible assumption) | assumption)
            obtain ⟨ad223, e223, hx223_0, hx223_1, hx223_2, hx223_3, hx223_4, hx223_5, hx223_6⟩ := at_T92 HR0.out x5_1 p223 q223
            have hw223_6 := hx223_6
            have hw223_5 := hx223_5
            have hw223_4 := hx223_4
            have hw223_3 := hx223_3
            have hw223_2 := hx223_2
            have hw223_1 := hx223_1
            have hw223_0 := hx223_0
            obtain rfl : ad221 = ad223 := (by injection e223)
            replace hx223_0 := zb HB.out hx223_0
            replace hx223_1 := zb HB.out hx223_1
            replace hx223_2 := zb HB.out hx223_2
            replace hx223_3 := zb HB.out hx223_3
            replace hx223_4 := zb HB.out hx223_4
            replace hx223_5 := zb HB.out hx223_5
            replace hx223_6 := zb HB.out hx223_6
            replace p223 := eq_true p223
            replace q223 := eq_true q223
            refine start_ (n := 8) (S := fun w' => w'.cell? (ad221.add ((x5_1).toNat * 7)) = some (.string ((rd_T92 l0 x5_1).f0)) ∧ w'.cell? ⟨(ad221.add ((x5_1).toNat * 7)).block, (ad221.add ((x5_1).toNat * 7)).off + 1, none⟩ = some (.string ((rd_T92 l0 x5_1).f1)) ∧ w'.cell? ⟨(ad221.add ((x5_1).toNat * 7)).block, (ad221.add ((x5_1).toNat * 7)).off + 2, none⟩ = some (.int .i64 ((rd_T92 l0 x5_1).f2)) ∧ w'.cell? ⟨(ad221.add ((x5_1).toNat * 7)).block, (ad221.add ((x5_1).toNat * 7)).off + 3, none⟩ = some (.int .i64 ((rd_T92 l0 x5_1).f3)) ∧ w'.cell? ⟨(ad221.add ((x5_1).toNat * 7)).block, (ad221.add ((x5_1).toNat * 7)).off + 4, none⟩ = some (.int .i64 ((rd_T92 l0 x5_1).f4)) ∧ w'.cell? ⟨(ad221.add ((x5_1).toNat * 7)).block, (ad221.add ((x5_1).toNat * 7)).off + 5, none⟩ = some (.int .i64 ((rd_T92 l0 x5_1).f5)) ∧ w'.cell? ⟨(ad221.add ((x5_1).toNat * 7)).block, (ad221.add ((x5_1).toNat * 7)).off + 6, none⟩ = some (.int .i64 ((rd_T92 l0 x5_1).f6))) (ds := []) #[false, false, false, false, false, false, false, false] (by kernel_rfl) rfl rfl ⟨(zb HB.out hw223_0), (zb HB.out hw223_1), (zb HB.out hw223_2), (zb HB.out hw223_3), (zb HB.out hw223_4), (zb HB.out hw223_5), (zb HB.out hw223_6)⟩ (fun hHeld => ?_); refine with_tabW laws_heldNodeS.tab7 laws_heldNodeS.bits7 (fun HT_ HW_ => ?_)
            generalize w15.drew = w16 at HB hx223_0 hx223_1 hx223_2 hx223_3 hx223_4 hx223_5 hx223_6 hHeld ⊢
            refine zr (i := 0) (N := some 22) (v := ?_) (a' := ?_) #[true, false, false, false, false, false, false, false] rfl rfl (zn HT_.out (by kernel_rfl)) (fun _ _ _ h => h) (Or.inl ⟨by rfl, ?_⟩) ?_ ?_
            rotate_left
            ·intro w'
             go_simp
             with_reducible rfl
            rotate_left
            ·simp only [Act.put, List.setIfInBounds_toArray, List.set_cons_zero, List.set_cons_succ, zo, zp]
             rfl
            refine zr (i := 1) (N := some 23) (v := ?_) (a' := ?_) #[true, true, false, false, false, false, false, false] rfl rfl (zn HT_.out (by kernel_rfl)) (fun _ _ _ h => h) (Or.inl ⟨by rfl, ?_⟩) ?_ ?_
            rotate_left
            ·intro w'
             go_simp
             with_reducible rfl
            rotate_left
            ·simp only [Act.put, List.setIfInBounds_toArray, List.set_cons_zero, List.set_cons_succ, zo, zp]
             rfl
            refine zr (i := 2) (N := some 24) (v := ?_) (a' := ?_) #[true, true, true, false, false, false, false, false] rfl rfl (zn HT_.out (by kernel_rfl)) (fun _ _ _ h => h) (Or.inl ⟨by rfl, ?_⟩) ?_ ?_
            rotate_left
            ·intro w'
             go_simp
             with_reducible rfl
            rotate_left
            ·simp only [Act.put, List.setIfInBounds_toArray, List.set_cons_zero, List.set_cons_succ, zo, zp]
             rfl
            refine zr (i := 3) (N := some 25) (v := ?_) (a' := ?_) #[true, true, true, true, false, false, false, false] rfl rfl (zn HT_.out (by kernel_rfl)) (fun _ _ _ h => h) (Or.inl ⟨by rfl, ?_⟩) ?_ ?_
            rotate_left
            ·intro w'
             go_simp
             with_reducible rfl
            rotate_left
            ·simp only [Act.put, List.setIfInBounds_toArray, List.set_cons_zero, List.set_cons_succ, zo, zp]
             rfl
            refine zr (i := 5) (N := some 27) (v := ?_) (a' := ?_) #[true, true, true, true, false, true, false, false] rfl rfl (zn HT_.out (by kernel_rfl)) (fun _ _ _ h => h) (Or.inl ⟨by rfl, ?_⟩) ?_ ?_
            rotate_left
            ·intro w'
             go_simp
             with_reducible rfl
            rotate_left
            ·simp only [Act.put, List.setIfInBounds_toArray, List.set_cons_zero, List.set_cons_succ, zo, zp]
             rfl
            refine take_ (i := 4) (N := some 26) (v := ?_) (a' := ?_) #[true, true, true, true, true, true, false, false] rfl rfl (zA HT_.out HW_.out (by kernel_rfl)) (fun _ _ _ h => h) (Or.inl ⟨by rfl, ?_⟩) hHeld ?_ ?_
            rotate_left
            ·rintro w' ⟨s0, s1, s2, s3, s4, s5, s6⟩
             go_simp
             with_reducible rfl
            rotate_left
            ·simp only [Act.put, List.setIfInBounds_toArray, List.set_cons_zero, List.set_cons_succ, zo, zp]
             rfl
            refine one_ (i := 6) (N := some 28) #[true, true, true, true, true, true, true, false] rfl rfl (one_of HT_.out (by kernel_rfl)) (by decide) (fun K hK => ?_)
            refine goes_ Tryd.func101 (by kernel_rfl) rfl #[.int .i64 (wrap64 (x1_1 + 1))] (by rfl) rfl rfl (by (try simp only [List.map_toArray, List.map_cons, List.map_nil]); first | done | rfl | (simp only [List.length_drop, List.length_take]; rfl)) ?_
            with_reducible refine (laws_markText.calls k1 (wrap64 (x1_1 + 1)) t224 _ A7.out).mono ?_
            rintro e w17 ⟨rfl, hb⟩
            refine ⟨_, rfl, ?_⟩
            have n0_ := Aside0.mk (zl (by repeat (first | (with_reducible first | exact HB.out | apply ze | apply zc | apply zd) | exact HB.out)) hb)
            clear HB
            have HB := n0_
            clear n0_
            (try clear hb)
            (try clear hb2)
            (try clear hk)
            (try clear hi)
            refine hK.out _ _ ⟨(zb HB.out hw223_0), (zb HB.out hw223_1), (zb HB.out hw223_2), (zb HB.out hw223_3), (zb HB.out hw223_4), (zb HB.out hw223_5), (zb HB.out hw223_6)⟩ (fun hHeld => ?_)
            clear hK K
            refine norm_ (a' := ?_) ?_ ?_
            rotate_left
            ·show Act.put _ (some 28) _ = _
             simp only [Act.put, List.setIfInBounds_toArray, List.set_cons_zero, List.set_cons_succ, zo, zp]
             rfl
            refine zr (i := 7) (N := some 29) (v := ?_) (a' := ?_) #[true, true, true, true, true, true, true, true] rfl rfl (zn HT_.out (by kernel_rfl)) (fun _ _ _ h => h) (Or.inl ⟨by rfl, ?_⟩) ?_ ?_
            rotate_left
            ·intro w'
             go_simp
             with_reducible rfl
            rotate_left
            ·simp only [Act.put, List.setIfInBounds_toArray, List.set_cons_zero, List.set_cons_succ, zo, zp]
             rfl
            refine done_ (done_of HT_.out (by kernel_rfl)) ?_
            have p225 : 0 ≤ (x5_1 : Int) := of_decide_eq_true (by first | (with_reducible assumption) | assumption)
            have q225 : x5_1 < (l0.length : Int) := of_decide_eq_true (by first | (with_reducible assumption) | assumption)
            obtain ⟨ad225, e225, hx225_0, hx225_1, hx225_2, hx225_3, hx225_4, hx225_5, hx225_6⟩ := at_T92 HR0.out x5_1 p225 q225
            obtain rfl : ad221 = ad225 := (by injection e225)
            replace hx225_0 := zb HB.out hx225_0
            replace hx225_1 := zb HB.out hx225_1
            replace hx225_2 := zb HB.out hx225_2
            replace hx225_3 := zb HB.out hx225_3
            replace hx225_4 := zb HB.out hx225_4
            replace hx225_5 := zb HB.out hx225_5
            replace hx225_6 := zb HB.out hx225_6
            replace p225 := eq_true p225
            replace q225 := eq_true q225
            have p226 : 0 ≤ (x5_1 : Int) := of_decide_eq_true (by first | (with_reducible assumption) | assumption)
            have q226 : x5_1 < (l0.length : Int) := of_decide_eq_true (by first | (with_reducible assumption) | assumption)
            obtain ⟨ad226, e226, hx226_0, hx226_1, hx226_2, hx226_3, hx226_4, hx226_5, hx226_6⟩ := at_T92 HR0.out x5_1 p226 q226
            obtain rfl : ad221 = ad226 := (by injection e226)
            replace hx226_0 := zb HB.out hx226_0
            replace hx226_1 := zb HB.out hx226_1
            replace hx226_2 := zb HB.out hx226_2
            replace hx226_3 := zb HB.out hx226_3
            replace hx226_4 := zb HB.out hx226_4
            replace hx226_5 := zb HB.out hx226_5
            replace hx226_6 := zb HB.out hx226_6
            replace p226 := eq_true p226
            replace q226 := eq_true q226
            have p227 : 0 ≤ (x5_1 : Int) := of_decide_eq_true (by first | (with_reducible assumption) | assumption)
            have q227 : x5_1 < (l0.length : Int) := of_decide_eq_true (by first | (with_reducible assumption) | assumption)
            obtain ⟨ad227, e227, hx227_0, hx227_1, hx227_2, hx227_3, hx227_4, hx227_5, hx227_6⟩ := at_T92 HR0.out x5_1 p227 q227
            obtain rfl : ad221 = ad227 := (by injection e227)
            replace hx227_0 := zb HB.out hx227_0
            replace hx227_1 := zb HB.out hx227_1
            replace hx227_2 := zb HB.out hx227_2
            replace hx227_3 := zb HB.out hx227_3
            replace hx227_4 := zb HB.out hx227_4
            replace hx227_5 := zb HB.out hx227_5
            replace hx227_6 := zb HB.out hx227_6
            replace p227 := eq_true p227
            replace q227 := eq_true q227
            have p228 : 0 ≤ (x5_1 : Int) := of_decide_eq_true (by first | (with_reducible assumption) | assumption)
            have q228 : x5_1 < (l0.length : Int) := of_decide_eq_true (by first | (with_reducible assumption) | assumption)
            obtain ⟨ad228, e228, hx228_0, hx228_1, hx228_2, hx228_3, hx228_4, hx228_5, hx228_6⟩ := at_T92 HR0.out x5_1 p228 q228
            obtain rfl : ad221 = ad228 := (by injection e228)
            replace hx228_0 := zb HB.out hx228_0
            replace hx228_1 := zb HB.out hx228_1
            replace hx228_2 := zb HB.out hx228_2
            replace hx228_3 := zb HB.out hx228_3
            replace hx228_4 := zb HB.out hx228_4
            replace hx228_5 := zb HB.out hx228_5
            replace hx228_6 := zb HB.out hx228_6
            replace p228 := eq_true p228
            replace q228 := eq_true q228
            have p229 : 0 ≤ (x5_1 : Int) := of_decide_eq_true (by first | (with_reducible assumption) | assumption)
            have q229 : x5_1 < (l0.length : Int) := of_decide_eq_true (by first | (with_reducible assumption) | assumption)
            obtain ⟨ad229, e229, hx229_0, hx229_1, hx229_2, hx229_3, hx229_4, hx229_5, hx229_6⟩ := at_T92 HR0.out x5_1 p229 q229
            obtain rfl : ad221 = ad229 := (by injection e229)
            replace hx229_0 := zb HB.out hx229_0
            replace hx229_1 := zb HB.out hx229_1
            replace hx229_2 := zb HB.out hx229_2
            replace hx229_3 := zb HB.out hx229_3
            replace hx229_4 := zb HB.out hx229_4
            replace hx229_5 := zb HB.out hx229_5
            replace hx229_6 := zb HB.out hx229_6
            replace p229 := eq_true p229
            replace q229 := eq_true q229
            try go_wp2
            go_roundg k1
            case measure => have := HK1.out; omega
            case rel => exact ⟨(wrap64 ((wrap64 ((wrap64 ((wrap64 ((wrap64 ((wrap64 ((wrap64 (x1_1 + 1)) + 1)) + 1)) + 1)) + 1)) + 1)) + 1)), (wrap64 (x5_1 + 1)), (by first | rfl | (simp; done) | (simp [*]; done)), (by first | rfl | (simp; done) | (simp [*]; done)), H', ⟨by have := HK1.out; omega⟩, ⟨by repeat (first | (with_reducible first | exact HB.out | apply ze | apply zc | apply zd) | exact HB.out)⟩⟩
           ·rw [if_neg c13] at H
            have c13b0 : (((rd_T92 l0 x5_1).f6) == (wrap64 ((wrap64 ((wrap64 ((wrap64 ((wrap64 ((wrap64 (x1_1 + 1)) + 1)) + 1)) + 1)) + 1)) + 1))) = false := beq_eq_false_iff_ne.mpr c13
            have c13b1 : (((rd_T92 l0 x5_1).f6) != (wrap64 ((wrap64 ((wrap64 ((wrap64 ((wrap64 ((wrap64 (x1_1 + 1)) + 1)) + 1)) + 1)) + 1)) + 1))) = true := bne_iff_ne.mpr c13
            obtain rfl := Option.some.inj H
            try go_wp2
            have n0_ := Aside0.mk (zd HB.out)
            clear HB
            have HB := n0_
            clear n0_
            have p221 : 0 ≤ (x5_1 : Int) := of_decide_eq_true (by first | (with_reducible assumption) | assumption)
            have q221 : x5_1 < (l0.length : Int) := of_decide_eq_true (by first | (with_reducible assumption) | assumption)
            obtain ⟨ad221, e221, hx221_0, hx221_1, hx221_2, hx221_3, hx221_4, hx221_5, hx221_6⟩ := at_T92 HR0.out x5_1 p221 q221
            have hw221_6 := hx221_6
            have hw221_5 := hx221_5
            have hw221_4 := hx221_4
            have hw221_3 := hx221_3
            have hw221_2 := hx221_2
            have hw221_1 := hx221_1
            have hw221_0 := hx221_0
            cases e221
            replace hx221_0 := zb HB.out hx221_0
            replace hx221_1 := zb HB.out hx221_1
            replace hx221_2 := zb HB.out hx221_2
            replace hx221_3 := zb HB.out hx221_3
            replace hx221_4 := zb HB.out hx221_4
            replace hx221_5 := zb HB.out hx221_5
            replace hx221_6 := zb HB.out hx221_6
            replace p221 := eq_true p221
            replace q221 := eq_true q221
            refine start_ (n := 8) (S := fun w' => w'.cell? (ad221.add ((x5_1).toNat * 7)) = some (.string ((rd_T92 l0 x5_1).f0)) ∧ w'.cell? ⟨(ad221.add ((x5_1).toNat * 7)).block, (ad221.add ((x5_1).toNat * 7)).off + 1, none⟩ = some (.string ((rd_T92 l0 x5_1).f1)) ∧ w'.cell? ⟨(ad221.add ((x5_1).toNat * 7)).block, (ad221.add ((x5_1).toNat * 7)).off + 2, none⟩ = some (.int .i64 ((rd_T92 l0 x5_1).f2)) ∧ w'.cell? ⟨(ad221.add ((x5_1).toNat * 7)).block, (ad221.add ((x5_1).toNat * 7)).off + 3, none⟩ = some (.int .i64 ((rd_T92 l0 x5_1).f3)) ∧ w'.cell? ⟨(ad221.add ((x5_1).toNat * 7)).block, (ad221.add ((x5_1).toNat * 7)).off + 4, none⟩ = some (.int .i64 ((rd_T92 l0 x5_1).f4)) ∧ w'.cell? ⟨(ad221.add ((x5_1).toNat * 7)).block, (ad221.add ((x5_1).toNat * 7)).off + 5, none⟩ = some (.int .i64 ((rd_T92 l0 x5_1).f5)) ∧ w'.cell? ⟨(ad221.add ((x5_1).toNat * 7)).block, (ad221.add ((x5_1).toNat * 7)).off + 6, none⟩ = some (.int .i64 ((rd_T92 l0 x5_1).f6))) (ds := []) #[false, false, false, false, false, false, false, false] (by kernel_rfl) rfl rfl ⟨(zb HB.out hw221_0), (zb HB.out hw221_1), (zb HB.out hw221_2), (zb HB.out hw221_3), (zb HB.out hw221_4), (zb HB.out hw221_5), (zb HB.out hw221_6)⟩ (fun hHeld => ?_); refine with_tabW laws_heldNodeS.tab4 laws_heldNodeS.bits4 (fun HT_ HW_ => ?_)
            generalize wr.drew = w18 at HB hx221_0 hx221_1 hx221_2 hx221_3 hx221_4 hx221_5 hx221_6 hHeld ⊢
            refine zr (i := 0) (N := some 12) (v := ?_) (a' := ?_) #[true, false, false, false, false, false, false, false] rfl rfl (zn HT_.out (by kernel_rfl)) (fun _ _ _ h => h) (Or.inl ⟨by rfl, ?_⟩) ?_ ?_
            rotate_left
            ·intro w'
             go_simp
             with_reducible rfl
            rotate_left
            ·simp only [Act.put, List.setIfInBounds_toArray, List.set_cons_zero, List.set_cons_succ, zo, zp]
             rfl
            refine zr (i := 1) (N := some 13) (v := ?_) (a' := ?_) #[true, true, false, false, false, false, false, false] rfl rfl (zn HT_.out (by kernel_rfl)) (fun _ _ _ h => h) (Or.inl ⟨by rfl, ?_⟩) ?_ ?_
            rotate_left
            ·intro w'
             go_simp
             with_reducible rfl
            rotate_left
            ·simp only [Act.put, List.setIfInBounds_toArray, List.set_cons_zero, List.set_cons_succ, zo, zp]
             rfl
            refine zr (i := 2) (N := some 14) (v := ?_) (a' := ?_) #[true, true, true, false, false, false, false, false] rfl rfl (zn HT_.out (by kernel_rfl)) (fun _ _ _ h => h) (Or.inl ⟨by rfl, ?_⟩) ?_ ?_
            rotate_left
            ·intro w'
             go_simp
             with_reducible rfl
            rotate_left
            ·simp only [Act.put, List.setIfInBounds_toArray, List.set_cons_zero, List.set_cons_succ, zo, zp]
             rfl
            refine zr (i := 3) (N := some 15) (v := ?_) (a' := ?_) #[true, true, true, true, false, false, false, false] rfl rfl (zn HT_.out (by kernel_rfl)) (fun _ _ _ h => h) (Or.inl ⟨by rfl, ?_⟩) ?_ ?_
            rotate_left
            ·intro w'
             go_simp
             with_reducible rfl
            rotate_left
            ·simp only [Act.put, List.setIfInBounds_toArray, List.set_cons_zero, List.set_cons_succ, zo, zp]
             rfl
            refine zr (i := 5) (N := some 17) (v := ?_) (a' := ?_) #[true, true, true, true, false, true, false, false] rfl rfl (zn HT_.out (by kernel_rfl)) (fun _ _ _ h => h) (Or.inl ⟨by rfl, ?_⟩) ?_ ?_
            rotate_left
            ·intro w'
             go_simp
             with_reducible rfl
            rotate_left
            ·simp only [Act.put, List.setIfInBounds_toArray, List.set_cons_zero, List.set_cons_succ, zo, zp]
             rfl
            refine take_ (i := 4) (N := some 16) (v := ?_) (a' := ?_) #[true, true, true, true, true, true, false, false] rfl rfl (zA HT_.out HW_.out (by kernel_rfl)) (fun _ _ _ h => h) (Or.inl ⟨by rfl, ?_⟩) hHeld ?_ ?_
            rotate_left
            ·rintro w' ⟨s0, s1, s2, s3, s4, s5, s6⟩
             go_simp
             with_reducible rfl
            rotate_left
            ·simp only [Act.put, List.setIfInBounds_toArray, List.set_cons_zero, List.set_cons_succ, zo, zp]
             rfl
            refine one_ (i := 6) (N := some 18) #[true, true, true, true, true, true, true, false] rfl rfl (one_of HT_.out (by kernel_rfl)) (by decide) (fun K hK => ?_)
            refine goes_ Tryd.func101 (by kernel_rfl) rfl #[.int .i64 x1_1] (by rfl) rfl rfl (by (try simp only [List.map_toArray, List.map_cons, List.map_nil]); first | done | rfl | (simp only [List.length_drop, List.length_take]; rfl)) ?_
            with_reducible refine (laws_markText.calls k1 x1_1 t222 _ A5.out).mono ?_
            rintro e w19 ⟨rfl, hb⟩
            refine ⟨_, rfl, ?_⟩
            have n0_ := Aside0.mk (zl (by repeat (first | (with_reducible first | exact HB.out | apply ze | apply zc | apply zd) | exact HB.out)) hb)
            clear HB
            have HB := n0_
            clear n0_
            (try clear hb)
            (try clear hb2)
            (try clear hk)
            (try clear hi)
            refine hK.out _ _ ⟨(zb HB.out hw221_0), (zb HB.out hw221_1), (zb HB.out hw221_2), (zb HB.out hw221_3), (zb HB.out hw221_4), (zb HB.out hw221_5), (zb HB.out hw221_6)⟩ (fun hHeld => ?_)
            clear hK K
            refine norm_ (a' := ?_) ?_ ?_
            rotate_left
            ·show Act.put _ (some 18) _ = _
             simp only [Act.put, List.setIfInBounds_toArray, List.set_cons_zero, List.set_cons_succ, zo, zp]
             rfl
            refine zr (i := 7) (N := some 19) (v := ?_) (a' := ?_) #[true, true, true, true, true, true, true, true] rfl rfl (zn HT_.out (by kernel_rfl)) (fun _ _ _ h => h) (Or.inl ⟨by rfl, ?_⟩) ?_ ?_
            rotate_left
            ·intro w'
             go_simp
             with_reducible rfl
            rotate_left
            ·simp only [Act.put, List.setIfInBounds_toArray, List.set_cons_zero, List.set_cons_succ, zo, zp]
             rfl
            refine done_ (done_of HT_.out (by kernel_rfl)) ?_
            try go_wp2
            have n0_ := Aside0.mk (zd HB.out)
            clear HB
            have HB := n0_
            clear n0_
            have p223 : 0 ≤ (x5_1 : Int) := of_decide_eq_true (by first | (with_reducible assumption) | assumption)
            have q223 : x5_1 < (l0.length : Int) := of_decide_eq_true (by first | (with_reducible assumption) | assumption)
            obtain ⟨ad223, e223, hx223_0, hx223_1, hx223_2, hx223_3, hx223_4, hx223_5, hx223_6⟩ := at_T92 HR0.out x5_1 p223 q223
            have hw223_6 := hx223_6
            have hw223_5 := hx223_5
            have hw223_4 := hx223_4
            have hw223_3 := hx223_3
            have hw223_2 := hx223_2
            have hw223_1 := hx223_1
            have hw223_0 := hx223_0
            obtain rfl : ad221 = ad223 := (by injection e223)
            replace hx223_0 := zb HB.out hx223_0
            replace hx223_1 := zb HB.out hx223_1
            replace hx223_2 := zb HB.out hx223_2
            replace hx223_3 := zb HB.out hx223_3
            replace hx223_4 := zb HB.out hx223_4
            replace hx223_5 := zb HB.out hx223_5
            replace hx223_6 := zb HB.out hx223_6
            replace p223 := eq_true p223
            replace q223 := eq_true q223
            refine start_ (n := 8) (S := fun w' => w'.cell? (ad221.add ((x5_1).toNat * 7)) = some (.string ((rd_T92 l0 x5_1).f0)) ∧ w'.cell? ⟨(ad221.add ((x5_1).toNat * 7)).block, (ad221.add ((x5_1).toNat * 7)).off + 1, none⟩ = some (.string ((rd_T92 l0 x5_1).f1)) ∧ w'.cell? ⟨(ad221.add ((x5_1).toNat * 7)).block, (ad221.add ((x5_1).toNat * 7)).off + 2, none⟩ = some (.int .i64 ((rd_T92 l0 x5_1).f2)) ∧ w'.cell? ⟨(ad221.add ((x5_1).toNat * 7)).block, (ad221.add ((x5_1).toNat * 7)).off + 3, none⟩ = some (.int .i64 ((rd_T92 l0 x5_1).f3)) ∧ w'.cell? ⟨(ad221.add ((x5_1).toNat * 7)).block, (ad221.add ((x5_1).toNat * 7)).off + 4, none⟩ = some (.int .i64 ((rd_T92 l0 x5_1).f4)) ∧ w'.cell? ⟨(ad221.add ((x5_1).toNat * 7)).block, (ad221.add ((x5_1).toNat * 7)).off + 5, none⟩ = some (.int .i64 ((rd_T92 l0 x5_1).f5)) ∧ w'.cell? ⟨(ad221.add ((x5_1).toNat * 7)).block, (ad221.add ((x5_1).toNat * 7)).off + 6, none⟩ = some (.int .i64 ((rd_T92 l0 x5_1).f6))) (ds := []) #[false, false, false, false, false, false, false, false] (by kernel_rfl) rfl rfl ⟨(zb HB.out hw223_0), (zb HB.out hw223_1), (zb HB.out hw223_2), (zb HB.out hw223_3), (zb HB.out hw223_4), (zb HB.out hw223_5), (zb HB.out hw223_6)⟩ (fun hHeld => ?_); refine with_tabW laws_heldNodeS.tab7 laws_heldNodeS.bits7 (fun HT_ HW_ => ?_)
            generalize w19.drew = w20 at HB hx223_0 hx223_1 hx223_2 hx223_3 hx223_4 hx223_5 hx223_6 hHeld ⊢
            refine zr (i := 0) (N := some 22) (v := ?_) (a' := ?_) #[true, false, false, false, false, false, false, false] rfl rfl (zn HT_.out (by kernel_rfl)) (fun _ _ _ h => h) (Or.inl ⟨by rfl, ?_⟩) ?_ ?_
            rotate_left
            ·intro w'
             go_simp
             with_reducible rfl
            rotate_left
            ·simp only [Act.put, List.setIfInBounds_toArray, List.set_cons_zero, List.set_cons_succ, zo, zp]
             rfl
            refine zr (i := 1) (N := some 23) (v := ?_) (a' := ?_) #[true, true, false, false, false, false, false, false] rfl rfl (zn HT_.out (by kernel_rfl)) (fun _ _ _ h => h) (Or.inl ⟨by rfl, ?_⟩) ?_ ?_
            rotate_left
            ·intro w'
             go_simp
             with_reducible rfl
            rotate_left
            ·simp only [Act.put, List.setIfInBounds_toArray, List.set_cons_zero, List.set_cons_succ, zo, zp]
             rfl
            refine zr (i := 2) (N := some 24) (v := ?_) (a' := ?_) #[true, true, true, false, false, false, false, false] rfl rfl (zn HT_.out (by kernel_rfl)) (fun _ _ _ h => h) (Or.inl ⟨by rfl, ?_⟩) ?_ ?_
            rotate_left
            ·intro w'
             go_simp
             with_reducible rfl
            rotate_left
            ·simp only [Act.put, List.setIfInBounds_toArray, List.set_cons_zero, List.set_cons_succ, zo, zp]
             rfl
            refine zr (i := 3) (N := some 25) (v := ?_) (a' := ?_) #[true, true, true, true, false, false, false, false] rfl rfl (zn HT_.out (by kernel_rfl)) (fun _ _ _ h => h) (Or.inl ⟨by rfl, ?_⟩) ?_ ?_
            rotate_left
            ·intro w'
             go_simp
             with_reducible rfl
            rotate_left
            ·simp only [Act.put, List.setIfInBounds_toArray, List.set_cons_zero, List.set_cons_succ, zo, zp]
             rfl
            refine zr (i := 5) (N := some 27) (v := ?_) (a' := ?_) #[true, true, true, true, false, true, false, false] rfl rfl (zn HT_.out (by kernel_rfl)) (fun _ _ _ h => h) (Or.inl ⟨by rfl, ?_⟩) ?_ ?_
            rotate_left
            ·intro w'
             go_simp
             with_reducible rfl
            rotate_left
            ·simp only [Act.put, List.setIfInBounds_toArray, List.set_cons_zero, List.set_cons_succ, zo, zp]
             rfl
            refine take_ (i := 4) (N := some 26) (v := ?_) (a' := ?_) #[true, true, true, true, true, true, false, false] rfl rfl (zA HT_.out HW_.out (by kernel_rfl)) (fun _ _ _ h => h) (Or.inl ⟨by rfl, ?_⟩) hHeld ?_ ?_
            rotate_left
            ·rintro w' ⟨s0, s1, s2, s3, s4, s5, s6⟩
             go_simp
             with_reducible rfl
            rotate_left
            ·simp only [Act.put, List.setIfInBounds_toArray, List.set_cons_zero, List.set_cons_succ, zo, zp]
             rfl
            refine one_ (i := 6) (N := some 28) #[true, true, true, true, true, true, true, false] rfl rfl (one_of HT_.out (by kernel_rfl)) (by decide) (fun K hK => ?_)
            refine goes_ Tryd.func101 (by kernel_rfl) rfl #[.int .i64 (wrap64 (x1_1 + 1))] (by rfl) rfl rfl (by (try simp only [List.map_toArray, List.map_cons, List.map_nil]); first | done | rfl | (simp only [List.length_drop, List.length_take]; rfl)) ?_
            with_reducible refine (laws_markText.calls k1 (wrap64 (x1_1 + 1)) t224 _ A7.out).mono ?_
            rintro e w21 ⟨rfl, hb⟩
            refine ⟨_, rfl, ?_⟩
            have n0_ := Aside0.mk (zl (by repeat (first | (with_reducible first | exact HB.out | apply ze | apply zc | apply zd) | exact HB.out)) hb)
            clear HB
            have HB := n0_
            clear n0_
            (try clear hb)
            (try clear hb2)
            (try clear hk)
            (try clear hi)
            refine hK.out _ _ ⟨(zb HB.out hw223_0), (zb HB.out hw223_1), (zb HB.out hw223_2), (zb HB.out hw223_3), (zb HB.out hw223_4), (zb HB.out hw223_5), (zb HB.out hw223_6)⟩ (fun hHeld => ?_)
            clear hK K
            refine norm_ (a' := ?_) ?_ ?_
            rotate_left
            ·show Act.put _ (some 28) _ = _
             simp only [Act.put, List.setIfInBounds_toArray, List.set_cons_zero, List.set_cons_succ, zo, zp]
             rfl
            refine zr (i := 7) (N := some 29) (v := ?_) (a' := ?_) #[true, true, true, true, true, true, true, true] rfl rfl (zn HT_.out (by kernel_rfl)) (fun _ _ _ h => h) (Or.inl ⟨by rfl, ?_⟩) ?_ ?_
            rotate_left
            ·intro w'
             go_simp
             with_reducible rfl
            rotate_left
            ·simp only [Act.put, List.setIfInBounds_toArray, List.set_cons_zero, List.set_cons_succ, zo, zp]
             rfl
            refine done_ (done_of HT_.out (by kernel_rfl)) ?_
            have p225 : 0 ≤ (x5_1 : Int) := of_decide_eq_true (by first | (with_reducible assumption) | assumption)
            have q225 : x5_1 < (l0.length : Int) := of_decide_eq_true (by first | (with_reducible assumption) | assumption)
            obtain ⟨ad225, e225, hx225_0, hx225_1, hx225_2, hx225_3, hx225_4, hx225_5, hx225_6⟩ := at_T92 HR0.out x5_1 p225 q225
            obtain rfl : ad221 = ad225 := (by injection e225)
            replace hx225_0 := zb HB.out hx225_0
            replace hx225_1 := zb HB.out hx225_1
            replace hx225_2 := zb HB.out hx225_2
            replace hx225_3 := zb HB.out hx225_3
            replace hx225_4 := zb HB.out hx225_4
            replace hx225_5 := zb HB.out hx225_5
            replace hx225_6 := zb HB.out hx225_6
            replace p225 := eq_true p225
            replace q225 := eq_true q225
            have p226 : 0 ≤ (x5_1 : Int) := of_decide_eq_true (by first | (with_reducible assumption) | assumption)
            have q226 : x5_1 < (l0.length : Int) := of_decide_eq_true (by first | (with_reducible assumption) | assumption)
            obtain ⟨ad226, e226, hx226_0, hx226_1, hx226_2, hx226_3, hx226_4, hx226_5, hx226_6⟩ := at_T92 HR0.out x5_1 p226 q226
            obtain rfl : ad221 = ad226 := (by injection e226)
            replace hx226_0 := zb HB.out hx226_0
            replace hx226_1 := zb HB.out hx226_1
            replace hx226_2 := zb HB.out hx226_2
            replace hx226_3 := zb HB.out hx226_3
            replace hx226_4 := zb HB.out hx226_4
            replace hx226_5 := zb HB.out hx226_5
            replace hx226_6 := zb HB.out hx226_6
            replace p226 := eq_true p226
            replace q226 := eq_true q226
            have p227 : 0 ≤ (x5_1 : Int) := of_decide_eq_true (by first | (with_reducible assumption) | assumption)
            have q227 : x5_1 < (l0.length : Int) := of_decide_eq_true (by first | (with_reducible assumption) | assumption)
            obtain ⟨ad227, e227, hx227_0, hx227_1, hx227_2, hx227_3, hx227_4, hx227_5, hx227_6⟩ := at_T92 HR0.out x5_1 p227 q227
            obtain rfl : ad221 = ad227 := (by injection e227)
            replace hx227_0 := zb HB.out hx227_0
            replace hx227_1 := zb HB.out hx227_1
            replace hx227_2 := zb HB.out hx227_2
            replace hx227_3 := zb HB.out hx227_3
            replace hx227_4 := zb HB.out hx227_4
            replace hx227_5 := zb HB.out hx227_5
            replace hx227_6 := zb HB.out hx227_6
            replace p227 := eq_true p227
            replace q227 := eq_true q227
            have p228 : 0 ≤ (x5_1 : Int) := of_decide_eq_true (by first | (with_reducible assumption) | assumption)
            have q228 : x5_1 < (l0.length : Int) := of_decide_eq_true (by first | (with_reducible assumption) | assumption)
            obtain ⟨ad228, e228, hx228_0, hx228_1, hx228_2, hx228_3, hx228_4, hx228_5, hx228_6⟩ := at_T92 HR0.out x5_1 p228 q228
            obtain rfl : ad221 = ad228 := (by injection e228)
            replace hx228_0 := zb HB.out hx228_0
            replace hx228_1 := zb HB.out hx228_1
            replace hx228_2 := zb HB.out hx228_2
            replace hx228_3 := zb HB.out hx228_3
            replace hx228_4 := zb HB.out hx228_4
            replace hx228_5 := zb HB.out hx228_5
            replace hx228_6 := zb HB.out hx228_6
            replace p228 := eq_true p228
            replace q228 := eq_true q228
            have p229 : 0 ≤ (x5_1 : Int) := of_decide_eq_true (by first | (with_reducible assumption) | assumption)
            have q229 : x5_1 < (l0.length : Int) := of_decide_eq_true (by first | (with_reducible assumption) | assumption)
            obtain ⟨ad229, e229, hx229_0, hx229_1, hx229_2, hx229_3, hx229_4, hx229_5, hx229_6⟩ := at_T92 HR0.out x5_1 p229 q229
            obtain rfl : ad221 = ad229 := (by injection e229)
            replace hx229_0 := zb HB.out hx229_0
            replace hx229_1 := zb HB.out hx229_1
            replace hx229_2 := zb HB.out hx229_2
            replace hx229_3 := zb HB.out hx229_3
            replace hx229_4 := zb HB.out hx229_4
            replace hx229_5 := zb HB.out hx229_5
            replace hx229_6 := zb HB.out hx229_6
            replace p229 := eq_true p229
            replace q229 := eq_true q229
            try go_wp2
            go_ret
            exact ⟨by first | rfl | (simp [errW_none, errW_some] <;> rfl) | (simp [*, errW_none, errW_some] <;> rfl), by repeat (first | (with_reducible first | exact HB.out | apply ze | apply zc | apply zd) | exact HB.out)⟩
          ·rw [if_neg c12] at H
           have c12b0 : (((rd_T92 l0 x5_1).f5) == (wrap64 ((wrap64 ((wrap64 ((wrap64 ((wrap64 (x1_1 + 1)) + 1)) + 1)) + 1)) + 1))) = false := beq_eq_false_iff_ne.mpr c12
           have c12b1 : (((rd_T92 l0 x5_1).f5) != (wrap64 ((wrap64 ((wrap64 ((wrap64 ((wrap64 (x1_1 + 1)) + 1)) + 1)) + 1)) + 1))) = true := bne_iff_ne.mpr c12
           obtain rfl := Option.some.inj H
           try go_wp2
           have n0_ := Aside0.mk (zd HB.out)
           clear HB
           have HB := n0_
           clear n0_
           have p221 : 0 ≤ (x5_1 : Int) := of_decide_eq_true (by first | (with_reducible assumption) | assumption)
           have q221 : x5_1 < (l0.length : Int) := of_decide_eq_true (by first | (with_reducible assumption) | assumption)
           obtain ⟨ad221, e221, hx221_0, hx221_1, hx221_2, hx221_3, hx221_4, hx221_5, hx221_6⟩ := at_T92 HR0.out x5_1 p221 q221
           have hw221_6 := hx221_6
           have hw221_5 := hx221_5
           have hw221_4 := hx221_4
           have hw221_3 := hx221_3
           have hw221_2 := hx221_2
           have hw221_1 := hx221_1
           have hw221_0 := hx221_0
           cases e221
           replace hx221_0 := zb HB.out hx221_0
           replace hx221_1 := zb HB.out hx221_1
           replace hx221_2 := zb HB.out hx221_2
           replace hx221_3 := zb HB.out hx221_3
           replace hx221_4 := zb HB.out hx221_4
           replace hx221_5 := zb HB.out hx221_5
           replace hx221_6 := zb HB.out hx221_6
           replace p221 := eq_true p221
           replace q221 := eq_true q221
           refine start_ (n := 8) (S := fun w' => w'.cell? (ad221.add ((x5_1).toNat * 7)) = some (.string ((rd_T92 l0 x5_1).f0)) ∧ w'.cell? ⟨(ad221.add ((x5_1).toNat * 7)).block, (ad221.add ((x5_1).toNat * 7)).off + 1, none⟩ = some (.string ((rd_T92 l0 x5_1).f1)) ∧ w'.cell? ⟨(ad221.add ((x5_1).toNat * 7)).block, (ad221.add ((x5_1).toNat * 7)).off + 2, none⟩ = some (.int .i64 ((rd_T92 l0 x5_1).f2)) ∧ w'.cell? ⟨(ad221.add ((x5_1).toNat * 7)).block, (ad221.add ((x5_1).toNat * 7)).off + 3, none⟩ = some (.int .i64 ((rd_T92 l0 x5_1).f3)) ∧ w'.cell? ⟨(ad221.add ((x5_1).toNat * 7)).block, (ad221.add ((x5_1).toNat * 7)).off + 4, none⟩ = some (.int .i64 ((rd_T92 l0 x5_1).f4)) ∧ w'.cell? ⟨(ad221.add ((x5_1).toNat * 7)).block, (ad221.add ((x5_1).toNat * 7)).off + 5, none⟩ = some (.int .i64 ((rd_T92 l0 x5_1).f5)) ∧ w'.cell? ⟨(ad221.add ((x5_1).toNat * 7)).block, (ad221.add ((x5_1).toNat * 7)).off + 6, none⟩ = some (.int .i64 ((rd_T92 l0 x5_1).f6))) (ds := []) #[false, false, false, false, false, false, false, false] (by kernel_rfl) rfl rfl ⟨(zb HB.out hw221_0), (zb HB.out hw221_1), (zb HB.out hw221_2), (zb HB.out hw221_3), (zb HB.out hw221_4), (zb HB.out hw221_5), (zb HB.out hw221_6)⟩ (fun hHeld => ?_); refine with_tabW laws_heldNodeS.tab4 laws_heldNodeS.bits4 (fun HT_ HW_ => ?_)
           generalize wr.drew = w22 at HB hx221_0 hx221_1 hx221_2 hx221_3 hx221_4 hx221_5 hx221_6 hHeld ⊢
           refine zr (i := 0) (N := some 12) (v := ?_) (a' := ?_) #[true, false, false, false, false, false, false, false] rfl rfl (zn HT_.out (by kernel_rfl)) (fun _ _ _ h => h) (Or.inl ⟨by rfl, ?_⟩) ?_ ?_
           rotate_left
           ·intro w'
            go_simp
            with_reducible rfl
           rotate_left
           ·simp only [Act.put, List.setIfInBounds_toArray, List.set_cons_zero, List.set_cons_succ, zo, zp]
            rfl
           refine zr (i := 1) (N := some 13) (v := ?_) (a' := ?_) #[true, true, false, false, false, false, false, false] rfl rfl (zn HT_.out (by kernel_rfl)) (fun _ _ _ h => h) (Or.inl ⟨by rfl, ?_⟩) ?_ ?_
           rotate_left
           ·intro w'
            go_simp
            with_reducible rfl
           rotate_left
           ·simp only [Act.put, List.setIfInBounds_toArray, List.set_cons_zero, List.set_cons_succ, zo, zp]
            rfl
           refine zr (i := 2) (N := some 14) (v := ?_) (a' := ?_) #[true, true, true, false, false, false, false, false] rfl rfl (zn HT_.out (by kernel_rfl)) (fun _ _ _ h => h) (Or.inl ⟨by rfl, ?_⟩) ?_ ?_
           rotate_left
           ·intro w'
            go_simp
            with_reducible rfl
           rotate_left
           ·simp only [Act.put, List.setIfInBounds_toArray, List.set_cons_zero, List.set_cons_succ, zo, zp]
            rfl
           refine zr (i := 3) (N := some 15) (v := ?_) (a' := ?_) #[true, true, true, true, false, false, false, false] rfl rfl (zn HT_.out (by kernel_rfl)) (fun _ _ _ h => h) (Or.inl ⟨by rfl, ?_⟩) ?_ ?_
           rotate_left
           ·intro w'
            go_simp
            with_reducible rfl
           rotate_left
           ·simp only [Act.put, List.setIfInBounds_toArray, List.set_cons_zero, List.set_cons_succ, zo, zp]
            rfl
           refine zr (i := 5) (N := some 17) (v := ?_) (a' := ?_) #[true, true, true, true, false, true, false, false] rfl rfl (zn HT_.out (by kernel_rfl)) (fun _ _ _ h => h) (Or.inl ⟨by rfl, ?_⟩) ?_ ?_
           rotate_left
           ·intro w'
            go_simp
            with_reducible rfl
           rotate_left
           ·simp only [Act.put, List.setIfInBounds_toArray, List.set_cons_zero, List.set_cons_succ, zo, zp]
            rfl
           refine take_ (i := 4) (N := some 16) (v := ?_) (a' := ?_) #[true, true, true, true, true, true, false, false] rfl rfl (zA HT_.out HW_.out (by kernel_rfl)) (fun _ _ _ h => h) (Or.inl ⟨by rfl, ?_⟩) hHeld ?_ ?_
           rotate_left
           ·rintro w' ⟨s0, s1, s2, s3, s4, s5, s6⟩
            go_simp
            with_reducible rfl
           rotate_left
           ·simp only [Act.put, List.setIfInBounds_toArray, List.set_cons_zero, List.set_cons_succ, zo, zp]
            rfl
           refine one_ (i := 6) (N := some 18) #[true, true, true, true, true, true, true, false] rfl rfl (one_of HT_.out (by kernel_rfl)) (by decide) (fun K hK => ?_)
           refine goes_ Tryd.func101 (by kernel_rfl) rfl #[.int .i64 x1_1] (by rfl) rfl rfl (by (try simp only [List.map_toArray, List.map_cons, List.map_nil]); first | done | rfl | (simp only [List.length_drop, List.length_take]; rfl)) ?_
           with_reducible refine (laws_markText.calls k1 x1_1 t222 _ A5.out).mono ?_
           rintro e w23 ⟨rfl, hb⟩
           refine ⟨_, rfl, ?_⟩
           have n0_ := Aside0.mk (zl (by repeat (first | (with_reducible first | exact HB.out | apply ze | apply zc | apply zd) | exact HB.out)) hb)
           clear HB
           have HB := n0_
           clear n0_
           (try clear hb)
           (try clear hb2)
           (try clear hk)
           (try clear hi)
           refine hK.out _ _ ⟨(zb HB.out hw221_0), (zb HB.out hw221_1), (zb HB.out hw221_2), (zb HB.out hw221_3), (zb HB.out hw221_4), (zb HB.out hw221_5), (zb HB.out hw221_6)⟩ (fun hHeld => ?_)
           clear hK K
           refine norm_ (a' := ?_) ?_ ?_
           rotate_left
           ·show Act.put _ (some 18) _ = _
            simp only [Act.put, List.setIfInBounds_toArray, List.set_cons_zero, List.set_cons_succ, zo, zp]
            rfl
           refine zr (i := 7) (N := some 19) (v := ?_) (a' := ?_) #[true, true, true, true, true, true, true, true] rfl rfl (zn HT_.out (by kernel_rfl)) (fun _ _ _ h => h) (Or.inl ⟨by rfl, ?_⟩) ?_ ?_
           rotate_left
           ·intro w'
            go_simp
            with_reducible rfl
           rotate_left
           ·simp only [Act.put, List.setIfInBounds_toArray, List.set_cons_zero, List.set_cons_succ, zo, zp]
            rfl
           refine done_ (done_of HT_.out (by kernel_rfl)) ?_
           try go_wp2
           have n0_ := Aside0.mk (zd HB.out)
           clear HB
           have HB := n0_
           clear n0_
           have p223 : 0 ≤ (x5_1 : Int) := of_decide_eq_true (by first | (with_reducible assumption) | assumption)
           have q223 : x5_1 < (l0.length : Int) := of_decide_eq_true (by first | (with_reducible assumption) | assumption)
           obtain ⟨ad223, e223, hx223_0, hx223_1, hx223_2, hx223_3, hx223_4, hx223_5, hx223_6⟩ := at_T92 HR0.out x5_1 p223 q223
           have hw223_6 := hx223_6
           have hw223_5 := hx223_5
           have hw223_4 := hx223_4
           have hw223_3 := hx223_3
           have hw223_2 := hx223_2
           have hw223_1 := hx223_1
           have hw223_0 := hx223_0
           obtain rfl : ad221 = ad223 := (by injection e223)
           replace hx223_0 := zb HB.out hx223_0
           replace hx223_1 := zb HB.out hx223_1
           replace hx223_2 := zb HB.out hx223_2
           replace hx223_3 := zb HB.out hx223_3
           replace hx223_4 := zb HB.out hx223_4
           replace hx223_5 := zb HB.out hx223_5
           replace hx223_6 := zb HB.out hx223_6
           replace p223 := eq_true p223
           replace q223 := eq_true q223
           refine start_ (n := 8) (S := fun w' => w'.cell? (ad221.add ((x5_1).toNat * 7)) = some (.string ((rd_T92 l0 x5_1).f0)) ∧ w'.cell? ⟨(ad221.add ((x5_1).toNat * 7)).block, (ad221.add ((x5_1).toNat * 7)).off + 1, none⟩ = some (.string ((rd_T92 l0 x5_1).f1)) ∧ w'.cell? ⟨(ad221.add ((x5_1).toNat * 7)).block, (ad221.add ((x5_1).toNat * 7)).off + 2, none⟩ = some (.int .i64 ((rd_T92 l0 x5_1).f2)) ∧ w'.cell? ⟨(ad221.add ((x5_1).toNat * 7)).block, (ad221.add ((x5_1).toNat * 7)).off + 3, none⟩ = some (.int .i64 ((rd_T92 l0 x5_1).f3)) ∧ w'.cell? ⟨(ad221.add ((x5_1).toNat * 7)).block, (ad221.add ((x5_1).toNat * 7)).off + 4, none⟩ = some (.int .i64 ((rd_T92 l0 x5_1).f4)) ∧ w'.cell? ⟨(ad221.add ((x5_1).toNat * 7)).block, (ad221.add ((x5_1).toNat * 7)).off + 5, none⟩ = some (.int .i64 ((rd_T92 l0 x5_1).f5)) ∧ w'.cell? ⟨(ad221.add ((x5_1).toNat * 7)).block, (ad221.add ((x5_1).toNat * 7)).off + 6, none⟩ = some (.int .i64 ((rd_T92 l0 x5_1).f6))) (ds := []) #[false, false, false, false, false, false, false, false] (by kernel_rfl) rfl rfl ⟨(zb HB.out hw223_0), (zb HB.out hw223_1), (zb HB.out hw223_2), (zb HB.out hw223_3), (zb HB.out hw223_4), (zb HB.out hw223_5), (zb HB.out hw223_6)⟩ (fun hHeld => ?_); refine with_tabW laws_heldNodeS.tab7 laws_heldNodeS.bits7 (fun HT_ HW_ => ?_)
           generalize w23.drew = w24 at HB hx223_0 hx223_1 hx223_2 hx223_3 hx223_4 hx223_5 hx223_6 hHeld ⊢
           refine zr (i := 0) (N := some 22) (v := ?_) (a' := ?_) #[true, false, false, false, false, false, false, false] rfl rfl (zn HT_.out (by kernel_rfl)) (fun _ _ _ h => h) (Or.inl ⟨by rfl, ?_⟩) ?_ ?_
           rotate_left
           ·intro w'
            go_simp
            with_reducible rfl
           rotate_left
           ·simp only [Act.put, List.setIfInBounds_toArray, List.set_cons_zero, List.set_cons_succ, zo, zp]
            rfl
           refine zr (i := 1) (N := some 23) (v := ?_) (a' := ?_) #[true, true, false, false, false, false, false, false] rfl rfl (zn HT_.out (by kernel_rfl)) (fun _ _ _ h => h) (Or.inl ⟨by rfl, ?_⟩) ?_ ?_
           rotate_left
           ·intro w'
            go_simp
            with_reducible rfl
           rotate_left
           ·simp only [Act.put, List.setIfInBounds_toArray, List.set_cons_zero, List.set_cons_succ, zo, zp]
            rfl
           refine zr (i := 2) (N := some 24) (v := ?_) (a' := ?_) #[true, true, true, false, false, false, false, false] rfl rfl (zn HT_.out (by kernel_rfl)) (fun _ _ _ h => h) (Or.inl ⟨by rfl, ?_⟩) ?_ ?_
           rotate_left
           ·intro w'
            go_simp
            with_reducible rfl
           rotate_left
           ·simp only [Act.put, List.setIfInBounds_toArray, List.set_cons_zero, List.set_cons_succ, zo, zp]
            rfl
           refine zr (i := 3) (N := some 25) (v := ?_) (a' := ?_) #[true, true, true, true, false, false, false, false] rfl rfl (zn HT_.out (by kernel_rfl)) (fun _ _ _ h => h) (Or.inl ⟨by rfl, ?_⟩) ?_ ?_
           rotate_left
           ·intro w'
            go_simp
            with_reducible rfl
           rotate_left
           ·simp only [Act.put, List.setIfInBounds_toArray, List.set_cons_zero, List.set_cons_succ, zo, zp]
            rfl
           refine zr (i := 5) (N := some 27) (v := ?_) (a' := ?_) #[true, true, true, true, false, true, false, false] rfl rfl (zn HT_.out (by kernel_rfl)) (fun _ _ _ h => h) (Or.inl ⟨by rfl, ?_⟩) ?_ ?_
           rotate_left
           ·intro w'
            go_simp
            with_reducible rfl
           rotate_left
           ·simp only [Act.put, List.setIfInBounds_toArray, List.set_cons_zero, List.set_cons_succ, zo, zp]
            rfl
           refine take_ (i := 4) (N := some 26) (v := ?_) (a' := ?_) #[true, true, true, true, true, true, false, false] rfl rfl (zA HT_.out HW_.out (by kernel_rfl)) (fun _ _ _ h => h) (Or.inl ⟨by rfl, ?_⟩) hHeld ?_ ?_
           rotate_left
           ·rintro w' ⟨s0, s1, s2, s3, s4, s5, s6⟩
            go_simp
            with_reducible rfl
           rotate_left
           ·simp only [Act.put, List.setIfInBounds_toArray, List.set_cons_zero, List.set_cons_succ, zo, zp]
            rfl
           refine one_ (i := 6) (N := some 28) #[true, true, true, true, true, true, true, false] rfl rfl (one_of HT_.out (by kernel_rfl)) (by decide) (fun K hK => ?_)
           refine goes_ Tryd.func101 (by kernel_rfl) rfl #[.int .i64 (wrap64 (x1_1 + 1))] (by rfl) rfl rfl (by (try simp only [List.map_toArray, List.map_cons, List.map_nil]); first | done | rfl | (simp only [List.length_drop, List.length_take]; rfl)) ?_
           with_reducible refine (laws_markText.calls k1 (wrap64 (x1_1 + 1)) t224 _ A7.out).mono ?_
           rintro e w25 ⟨rfl, hb⟩
           refine ⟨_, rfl, ?_⟩
           have n0_ := Aside0.mk (zl (by repeat (first | (with_reducible first | exact HB.out | apply ze | apply zc | apply zd) | exact HB.out)) hb)
           clear HB
           have HB := n0_
           clear n0_
           (try clear hb)
           (try clear hb2)
           (try clear hk)
           (try clear hi)
           refine hK.out _ _ ⟨(zb HB.out hw223_0), (zb HB.out hw223_1), (zb HB.out hw223_2), (zb HB.out hw223_3), (zb HB.out hw223_4), (zb HB.out hw223_5), (zb HB.out hw223_6)⟩ (fun hHeld => ?_)
           clear hK K
           refine norm_ (a' := ?_) ?_ ?_
           rotate_left
           ·show Act.put _ (some 28) _ = _
            simp only [Act.put, List.setIfInBounds_toArray, List.set_cons_zero, List.set_cons_succ, zo, zp]
            rfl
           refine zr (i := 7) (N := some 29) (v := ?_) (a' := ?_) #[true, true, true, true, true, true, true, true] rfl rfl (zn HT_.out (by kernel_rfl)) (fun _ _ _ h => h) (Or.inl ⟨by rfl, ?_⟩) ?_ ?_
           rotate_left
           ·intro w'
            go_simp
            with_reducible rfl
           rotate_left
           ·simp only [Act.put, List.setIfInBounds_toArray, List.set_cons_zero, List.set_cons_succ, zo, zp]
            rfl
           refine done_ (done_of HT_.out (by kernel_rfl)) ?_
           have p225 : 0 ≤ (x5_1 : Int) := of_decide_eq_true (by first | (with_reducible assumption) | assumption)
           have q225 : x5_1 < (l0.length : Int) := of_decide_eq_true (by first | (with_reducible assumption) | assumption)
           obtain ⟨ad225, e225, hx225_0, hx225_1, hx225_2, hx225_3, hx225_4, hx225_5, hx225_6⟩ := at_T92 HR0.out x5_1 p225 q225
           obtain rfl : ad221 = ad225 := (by injection e225)
           replace hx225_0 := zb HB.out hx225_0
           replace hx225_1 := zb HB.out hx225_1
           replace hx225_2 := zb HB.out hx225_2
           replace hx225_3 := zb HB.out hx225_3
           replace hx225_4 := zb HB.out hx225_4
           replace hx225_5 := zb HB.out hx225_5
           replace hx225_6 := zb HB.out hx225_6
           replace p225 := eq_true p225
           replace q225 := eq_true q225
           have p226 : 0 ≤ (x5_1 : Int) := of_decide_eq_true (by first | (with_reducible assumption) | assumption)
           have q226 : x5_1 < (l0.length : Int) := of_decide_eq_true (by first | (with_reducible assumption) | assumption)
           obtain ⟨ad226, e226, hx226_0, hx226_1, hx226_2, hx226_3, hx226_4, hx226_5, hx226_6⟩ := at_T92 HR0.out x5_1 p226 q226
           obtain rfl : ad221 = ad226 := (by injection e226)
           replace hx226_0 := zb HB.out hx226_0
           replace hx226_1 := zb HB.out hx226_1
           replace hx226_2 := zb HB.out hx226_2
           replace hx226_3 := zb HB.out hx226_3
           replace hx226_4 := zb HB.out hx226_4
           replace hx226_5 := zb HB.out hx226_5
           replace hx226_6 := zb HB.out hx226_6
           replace p226 := eq_true p226
           replace q226 := eq_true q226
           have p227 : 0 ≤ (x5_1 : Int) := of_decide_eq_true (by first | (with_reducible assumption) | assumption)
           have q227 : x5_1 < (l0.length : Int) := of_decide_eq_true (by first | (with_reducible assumption) | assumption)
           obtain ⟨ad227, e227, hx227_0, hx227_1, hx227_2, hx227_3, hx227_4, hx227_5, hx227_6⟩ := at_T92 HR0.out x5_1 p227 q227
           obtain rfl : ad221 = ad227 := (by injection e227)
           replace hx227_0 := zb HB.out hx227_0
           replace hx227_1 := zb HB.out hx227_1
           replace hx227_2 := zb HB.out hx227_2
           replace hx227_3 := zb HB.out hx227_3
           replace hx227_4 := zb HB.out hx227_4
           replace hx227_5 := zb HB.out hx227_5
           replace hx227_6 := zb HB.out hx227_6
           replace p227 := eq_true p227
           replace q227 := eq_true q227
           have p228 : 0 ≤ (x5_1 : Int) := of_decide_eq_true (by first | (with_reducible assumption) | assumption)
           have q228 : x5_1 < (l0.length : Int) := of_decide_eq_true (by first | (with_reducible assumption) | assumption)
           obtain ⟨ad228, e228, hx228_0, hx228_1, hx228_2, hx228_3, hx228_4, hx228_5, hx228_6⟩ := at_T92 HR0.out x5_1 p228 q228
           obtain rfl : ad221 = ad228 := (by injection e228)
           replace hx228_0 := zb HB.out hx228_0
           replace hx228_1 := zb HB.out hx228_1
           replace hx228_2 := zb HB.out hx228_2
           replace hx228_3 := zb HB.out hx228_3
           replace hx228_4 := zb HB.out hx228_4
           replace hx228_5 := zb HB.out hx228_5
           replace hx228_6 := zb HB.out hx228_6
           replace p228 := eq_true p228
           replace q228 := eq_true q228
           try go_wp2
           go_ret
           exact ⟨by first | rfl | (simp [errW_none, errW_some] <;> rfl) | (simp [*, errW_none, errW_some] <;> rfl), by repeat (first | (with_reducible first | exact HB.out | apply ze | apply zc | apply zd) | exact HB.out)⟩
         ·rw [if_neg c11] at H
          have c11b0 : (((rd_T92 l0 x5_1).f4) == (wrap64 ((wrap64 ((wrap64 ((wrap64 (x1_1 + 1)) + 1)) + 1)) + 1))) = false := beq_eq_false_iff_ne.mpr c11
          have c11b1 : (((rd_T92 l0 x5_1).f4) != (wrap64 ((wrap64 ((wrap64 ((wrap64 (x1_1 + 1)) + 1)) + 1)) + 1))) = true := bne_iff_ne.mpr c11
          obtain rfl := Option.some.inj H
          try go_wp2
          have n0_ := Aside0.mk (zd HB.out)
          clear HB
          have HB := n0_
          clear n0_
          have p221 : 0 ≤ (x5_1 : Int) := of_decide_eq_true (by first | (with_reducible assumption) | assumption)
          have q221 : x5_1 < (l0.length : Int) := of_decide_eq_true (by first | (with_reducible assumption) | assumption)
          obtain ⟨ad221, e221, hx221_0, hx221_1, hx221_2, hx221_3, hx221_4, hx221_5, hx221_6⟩ := at_T92 HR0.out x5_1 p221 q221
          have hw221_6 := hx221_6
          have hw221_5 := hx221_5
          have hw221_4 := hx221_4
          have hw221_3 := hx221_3
          have hw221_2 := hx221_2
          have hw221_1 := hx221_1
          have hw221_0 := hx221_0
          cases e221
          replace hx221_0 := zb HB.out hx221_0
          replace hx221_1 := zb HB.out hx221_1
          replace hx221_2 := zb HB.out hx221_2
          replace hx221_3 := zb HB.out hx221_3
          replace hx221_4 := zb HB.out hx221_4
          replace hx221_5 := zb HB.out hx221_5
          replace hx221_6 := zb HB.out hx221_6
          replace p221 := eq_true p221
          replace q221 := eq_true q221
          refine start_ (n := 8) (S := fun w' => w'.cell? (ad221.add ((x5_1).toNat * 7)) = some (.string ((rd_T92 l0 x5_1).f0)) ∧ w'.cell? ⟨(ad221.add ((x5_1).toNat * 7)).block, (ad221.add ((x5_1).toNat * 7)).off + 1, none⟩ = some (.string ((rd_T92 l0 x5_1).f1)) ∧ w'.cell? ⟨(ad221.add ((x5_1).toNat * 7)).block, (ad221.add ((x5_1).toNat * 7)).off + 2, none⟩ = some (.int .i64 ((rd_T92 l0 x5_1).f2)) ∧ w'.cell? ⟨(ad221.add ((x5_1).toNat * 7)).block, (ad221.add ((x5_1).toNat * 7)).off + 3, none⟩ = some (.int .i64 ((rd_T92 l0 x5_1).f3)) ∧ w'.cell? ⟨(ad221.add ((x5_1).toNat * 7)).block, (ad221.add ((x5_1).toNat * 7)).off + 4, none⟩ = some (.int .i64 ((rd_T92 l0 x5_1).f4)) ∧ w'.cell? ⟨(ad221.add ((x5_1).toNat * 7)).block, (ad221.add ((x5_1).toNat * 7)).off + 5, none⟩ = some (.int .i64 ((rd_T92 l0 x5_1).f5)) ∧ w'.cell? ⟨(ad221.add ((x5_1).toNat * 7)).block, (ad221.add ((x5_1).toNat * 7)).off + 6, none⟩ = some (.int .i64 ((rd_T92 l0 x5_1).f6))) (ds := []) #[false, false, false, false, false, false, false, false] (by kernel_rfl) rfl rfl ⟨(zb HB.out hw221_0), (zb HB.out hw221_1), (zb HB.out hw221_2), (zb HB.out hw221_3), (zb HB.out hw221_4), (zb HB.out hw221_5), (zb HB.out hw221_6)⟩ (fun hHeld => ?_); refine with_tabW laws_heldNodeS.tab4 laws_heldNodeS.bits4 (fun HT_ HW_ => ?_)
          generalize wr.drew = w26 at HB hx221_0 hx221_1 hx221_2 hx221_3 hx221_4 hx221_5 hx221_6 hHeld ⊢
          refine zr (i := 0) (N := some 12) (v := ?_) (a' := ?_) #[true, false, false, false, false, false, false, false] rfl rfl (zn HT_.out (by kernel_rfl)) (fun _ _ _ h => h) (Or.inl ⟨by rfl, ?_⟩) ?_ ?_
          rotate_left
          ·intro w'
           go_simp
           with_reducible rfl
          rotate_left
          ·simp only [Act.put, List.setIfInBounds_toArray, List.set_cons_zero, List.set_cons_succ, zo, zp]
           rfl
          refine zr (i := 1) (N := some 13) (v := ?_) (a' := ?_) #[true, true, false, false, false, false, false, false] rfl rfl (zn HT_.out (by kernel_rfl)) (fun _ _ _ h => h) (Or.inl ⟨by rfl, ?_⟩) ?_ ?_
          rotate_left
          ·intro w'
           go_simp
           with_reducible rfl
          rotate_left
          ·simp only [Act.put, List.setIfInBounds_toArray, List.set_cons_zero, List.set_cons_succ, zo, zp]
           rfl
          refine zr (i := 2) (N := some 14) (v := ?_) (a' := ?_) #[true, true, true, false, false, false, false, false] rfl rfl (zn HT_.out (by kernel_rfl)) (fun _ _ _ h => h) (Or.inl ⟨by rfl, ?_⟩) ?_ ?_
          rotate_left
          ·intro w'
           go_simp
           with_reducible rfl
          rotate_left
          ·simp only [Act.put, List.setIfInBounds_toArray, List.set_cons_zero, List.set_cons_succ, zo, zp]
           rfl
          refine zr (i := 3) (N := some 15) (v := ?_) (a' := ?_) #[true, true, true, true, false, false, false, false] rfl rfl (zn HT_.out (by kernel_rfl)) (fun _ _ _ h => h) (Or.inl ⟨by rfl, ?_⟩) ?_ ?_
          rotate_left
          ·intro w'
           go_simp
           with_reducible rfl
          rotate_left
          ·simp only [Act.put, List.setIfInBounds_toArray, List.set_cons_zero, List.set_cons_succ, zo, zp]
           rfl
          refine zr (i := 5) (N := some 17) (v := ?_) (a' := ?_) #[true, true, true, true, false, true, false, false] rfl rfl (zn HT_.out (by kernel_rfl)) (fun _ _ _ h => h) (Or.inl ⟨by rfl, ?_⟩) ?_ ?_
          rotate_left
          ·intro w'
           go_simp
           with_reducible rfl
          rotate_left
          ·simp only [Act.put, List.setIfInBounds_toArray, List.set_cons_zero, List.set_cons_succ, zo, zp]
           rfl
          refine take_ (i := 4) (N := some 16) (v := ?_) (a' := ?_) #[true, true, true, true, true, true, false, false] rfl rfl (zA HT_.out HW_.out (by kernel_rfl)) (fun _ _ _ h => h) (Or.inl ⟨by rfl, ?_⟩) hHeld ?_ ?_
          rotate_left
          ·rintro w' ⟨s0, s1, s2, s3, s4, s5, s6⟩
           go_simp
           with_reducible rfl
          rotate_left
          ·simp only [Act.put, List.setIfInBounds_toArray, List.set_cons_zero, List.set_cons_succ, zo, zp]
           rfl
          refine one_ (i := 6) (N := some 18) #[true, true, true, true, true, true, true, false] rfl rfl (one_of HT_.out (by kernel_rfl)) (by decide) (fun K hK => ?_)
          refine goes_ Tryd.func101 (by kernel_rfl) rfl #[.int .i64 x1_1] (by rfl) rfl rfl (by (try simp only [List.map_toArray, List.map_cons, List.map_nil]); first | done | rfl | (simp only [List.length_drop, List.length_take]; rfl)) ?_
          with_reducible refine (laws_markText.calls k1 x1_1 t222 _ A5.out).mono ?_
          rintro e w27 ⟨rfl, hb⟩
          refine ⟨_, rfl, ?_⟩
          have n0_ := Aside0.mk (zl (by repeat (first | (with_reducible first | exact HB.out | apply ze | apply zc | apply zd) | exact HB.out)) hb)
          clear HB
          have HB := n0_
          clear n0_
          (try clear hb)
          (try clear hb2)
          (try clear hk)
          (try clear hi)
          refine hK.out _ _ ⟨(zb HB.out hw221_0), (zb HB.out hw221_1), (zb HB.out hw221_2), (zb HB.out hw221_3), (zb HB.out hw221_4), (zb HB.out hw221_5), (zb HB.out hw221_6)⟩ (fun hHeld => ?_)
          clear hK K
          refine norm_ (a' := ?_) ?_ ?_
          rotate_left
          ·show Act.put _ (some 18) _ = _
           simp only [Act.put, List.setIfInBounds_toArray, List.set_cons_zero, List.set_cons_succ, zo, zp]
           rfl
          refine zr (i := 7) (N := some 19) (v := ?_) (a' := ?_) #[true, true, true, true, true, true, true, true] rfl rfl (zn HT_.out (by kernel_rfl)) (fun _ _ _ h => h) (Or.inl ⟨by rfl, ?_⟩) ?_ ?_
          rotate_left
          ·intro w'
           go_simp
           with_reducible rfl
          rotate_left
          ·simp only [Act.put, List.setIfInBounds_toArray, List.set_cons_zero, List.set_cons_succ, zo, zp]
           rfl
          refine done_ (done_of HT_.out (by kernel_rfl)) ?_
          try go_wp2
          have n0_ := Aside0.mk (zd HB.out)
          clear HB
          have HB := n0_
          clear n0_
          have p223 : 0 ≤ (x5_1 : Int) := of_decide_eq_true (by first | (with_reducible assumption) | assumption)
          have q223 : x5_1 < (l0.length : Int) := of_decide_eq_true (by first | (with_reducible assumption) | assumption)
          obtain ⟨ad223, e223, hx223_0, hx223_1, hx223_2, hx223_3, hx223_4, hx223_5, hx223_6⟩ := at_T92 HR0.out x5_1 p223 q223
          have hw223_6 := hx223_6
          have hw223_5 := hx223_5
          have hw223_4 := hx223_4
          have hw223_3 := hx223_3
          have hw223_2 := hx223_2
          have hw223_1 := hx223_1
          have hw223_0 := hx223_0
          obtain rfl : ad221 = ad223 := (by injection e223)
          replace hx223_0 := zb HB.out hx223_0
          replace hx223_1 := zb HB.out hx223_1
          replace hx223_2 := zb HB.out hx223_2
          replace hx223_3 := zb HB.out hx223_3
          replace hx223_4 := zb HB.out hx223_4
          replace hx223_5 := zb HB.out hx223_5
          replace hx223_6 := zb HB.out hx223_6
          replace p223 := eq_true p223
          replace q223 := eq_true q223
          refine start_ (n := 8) (S := fun w' => w'.cell? (ad221.add ((x5_1).toNat * 7)) = some (.string ((rd_T92 l0 x5_1).f0)) ∧ w'.cell? ⟨(ad221.add ((x5_1).toNat * 7)).block, (ad221.add ((x5_1).toNat * 7)).off + 1, none⟩ = some (.string ((rd_T92 l0 x5_1).f1)) ∧ w'.cell? ⟨(ad221.add ((x5_1).toNat * 7)).block, (ad221.add ((x5_1).toNat * 7)).off + 2, none⟩ = some (.int .i64 ((rd_T92 l0 x5_1).f2)) ∧ w'.cell? ⟨(ad221.add ((x5_1).toNat * 7)).block, (ad221.add ((x5_1).toNat * 7)).off + 3, none⟩ = some (.int .i64 ((rd_T92 l0 x5_1).f3)) ∧ w'.cell? ⟨(ad221.add ((x5_1).toNat * 7)).block, (ad221.add ((x5_1).toNat * 7)).off + 4, none⟩ = some (.int .i64 ((rd_T92 l0 x5_1).f4)) ∧ w'.cell? ⟨(ad221.add ((x5_1).toNat * 7)).block, (ad221.add ((x5_1).toNat * 7)).off + 5, none⟩ = some (.int .i64 ((rd_T92 l0 x5_1).f5)) ∧ w'.cell? ⟨(ad221.add ((x5_1).toNat * 7)).block, (ad221.add ((x5_1).toNat * 7)).off + 6, none⟩ = some (.int .i64 ((rd_T92 l0 x5_1).f6))) (ds := []) #[false, false, false, false, false, false, false, false] (by kernel_rfl) rfl rfl ⟨(zb HB.out hw223_0), (zb HB.out hw223_1), (zb HB.out hw223_2), (zb HB.out hw223_3), (zb HB.out hw223_4), (zb HB.out hw223_5), (zb HB.out hw223_6)⟩ (fun hHeld => ?_); refine with_tabW laws_heldNodeS.tab7 laws_heldNodeS.bits7 (fun HT_ HW_ => ?_)
          generalize w27.drew = w28 at HB hx223_0 hx223_1 hx223_2 hx223_3 hx223_4 hx223_5 hx223_6 hHeld ⊢
          refine zr (i := 0) (N := some 22) (v := ?_) (a' := ?_) #[true, false, false, false, false, false, false, false] rfl rfl (zn HT_.out (by kernel_rfl)) (fun _ _ _ h => h) (Or.inl ⟨by rfl, ?_⟩) ?_ ?_
          rotate_left
          ·intro w'
           go_simp
           with_reducible rfl
          rotate_left
          ·simp only [Act.put, List.setIfInBounds_toArray, List.set_cons_zero, List.set_cons_succ, zo, zp]
           rfl
          refine zr (i := 1) (N := some 23) (v := ?_) (a' := ?_) #[true, true, false, false, false, false, false, false] rfl rfl (zn HT_.out (by kernel_rfl)) (fun _ _ _ h => h) (Or.inl ⟨by rfl, ?_⟩) ?_ ?_
          rotate_left
          ·intro w'
           go_simp
           with_reducible rfl
          rotate_left
          ·simp only [Act.put, List.setIfInBounds_toArray, List.set_cons_zero, List.set_cons_succ, zo, zp]
           rfl
          refine zr (i := 2) (N := some 24) (v := ?_) (a' := ?_) #[true, true, true, false, false, false, false, false] rfl rfl (zn HT_.out (by kernel_rfl)) (fun _ _ _ h => h) (Or.inl ⟨by rfl, ?_⟩) ?_ ?_
          rotate_left
          ·intro w'
           go_simp
           with_reducible rfl
          rotate_left
          ·simp only [Act.put, List.setIfInBounds_toArray, List.set_cons_zero, List.set_cons_succ, zo, zp]
           rfl
          refine zr (i := 3) (N := some 25) (v := ?_) (a' := ?_) #[true, true, true, true, false, false, false, false] rfl rfl (zn HT_.out (by kernel_rfl)) (fun _ _ _ h => h) (Or.inl ⟨by rfl, ?_⟩) ?_ ?_
          rotate_left
          ·intro w'
           go_simp
           with_reducible rfl
          rotate_left
          ·simp only [Act.put, List.setIfInBounds_toArray, List.set_cons_zero, List.set_cons_succ, zo, zp]
           rfl
          refine zr (i := 5) (N := some 27) (v := ?_) (a' := ?_) #[true, true, true, true, false, true, false, false] rfl rfl (zn HT_.out (by kernel_rfl)) (fun _ _ _ h => h) (Or.inl ⟨by rfl, ?_⟩) ?_ ?_
          rotate_left
          ·intro w'
           go_simp
           with_reducible rfl
          rotate_left
          ·simp only [Act.put, List.setIfInBounds_toArray, List.set_cons_zero, List.set_cons_succ, zo, zp]
           rfl
          refine take_ (i := 4) (N := some 26) (v := ?_) (a' := ?_) #[true, true, true, true, true, true, false, false] rfl rfl (zA HT_.out HW_.out (by kernel_rfl)) (fun _ _ _ h => h) (Or.inl ⟨by rfl, ?_⟩) hHeld ?_ ?_
          rotate_left
          ·rintro w' ⟨s0, s1, s2, s3, s4, s5, s6⟩
           go_simp
           with_reducible rfl
          rotate_left
          ·simp only [Act.put, List.setIfInBounds_toArray, List.set_cons_zero, List.set_cons_succ, zo, zp]
           rfl
          refine one_ (i := 6) (N := some 28) #[true, true, true, true, true, true, true, false] rfl rfl (one_of HT_.out (by kernel_rfl)) (by decide) (fun K hK => ?_)
          refine goes_ Tryd.func101 (by kernel_rfl) rfl #[.int .i64 (wrap64 (x1_1 + 1))] (by rfl) rfl rfl (by (try simp only [List.map_toArray, List.map_cons, List.map_nil]); first | done | rfl | (simp only [List.length_drop, List.length_take]; rfl)) ?_
          with_reducible refine (laws_markText.calls k1 (wrap64 (x1_1 + 1)) t224 _ A7.out).mono ?_
          rintro e w29 ⟨rfl, hb⟩
          refine ⟨_, rfl, ?_⟩
          have n0_ := Aside0.mk (zl (by repeat (first | (with_reducible first | exact HB.out | apply ze | apply zc | apply zd) | exact HB.out)) hb)
          clear HB
          have HB := n0_
          clear n0_
          (try clear hb)
          (try clear hb2)
          (try clear hk)
          (try clear hi)
          refine hK.out _ _ ⟨(zb HB.out hw223_0), (zb HB.out hw223_1), (zb HB.out hw223_2), (zb HB.out hw223_3), (zb HB.out hw223_4), (zb HB.out hw223_5), (zb HB.out hw223_6)⟩ (fun hHeld => ?_)
          clear hK K
          refine norm_ (a' := ?_) ?_ ?_
          rotate_left
          ·show Act.put _ (some 28) _ = _
           simp only [Act.put, List.setIfInBounds_toArray, List.set_cons_zero, List.set_cons_succ, zo, zp]
           rfl
          refine zr (i := 7) (N := some 29) (v := ?_) (a' := ?_) #[true, true, true, true, true, true, true, true] rfl rfl (zn HT_.out (by kernel_rfl)) (fun _ _ _ h => h) (Or.inl ⟨by rfl, ?_⟩) ?_ ?_
          rotate_left
          ·intro w'
           go_simp
           with_reducible rfl
          rotate_left
          ·simp only [Act.put, List.setIfInBounds_toArray, List.set_cons_zero, List.set_cons_succ, zo, zp]
           rfl
          refine done_ (done_of HT_.out (by kernel_rfl)) ?_
          have p225 : 0 ≤ (x5_1 : Int) := of_decide_eq_true (by first | (with_reducible assumption) | assumption)
          have q225 : x5_1 < (l0.length : Int) := of_decide_eq_true (by first | (with_reducible assumption) | assumption)
          obtain ⟨ad225, e225, hx225_0, hx225_1, hx225_2, hx225_3, hx225_4, hx225_5, hx225_6⟩ := at_T92 HR0.out x5_1 p225 q225
          obtain rfl : ad221 = ad225 := (by injection e225)
          replace hx225_0 := zb HB.out hx225_0
          replace hx225_1 := zb HB.out hx225_1
          replace hx225_2 := zb HB.out hx225_2
          replace hx225_3 := zb HB.out hx225_3
          replace hx225_4 := zb HB.out hx225_4
          replace hx225_5 := zb HB.out hx225_5
          replace hx225_6 := zb HB.out hx225_6
          replace p225 := eq_true p225
          replace q225 := eq_true q225
          have p226 : 0 ≤ (x5_1 : Int) := of_decide_eq_true (by first | (with_reducible assumption) | assumption)
          have q226 : x5_1 < (l0.length : Int) := of_decide_eq_true (by first | (with_reducible assumption) | assumption)
          obtain ⟨ad226, e226, hx226_0, hx226_1, hx226_2, hx226_3, hx226_4, hx226_5, hx226_6⟩ := at_T92 HR0.out x5_1 p226 q226
          obtain rfl : ad221 = ad226 := (by injection e226)
          replace hx226_0 := zb HB.out hx226_0
          replace hx226_1 := zb HB.out hx226_1
          replace hx226_2 := zb HB.out hx226_2
          replace hx226_3 := zb HB.out hx226_3
          replace hx226_4 := zb HB.out hx226_4
          replace hx226_5 := zb HB.out hx226_5
          replace hx226_6 := zb HB.out hx226_6
          replace p226 := eq_true p226
          replace q226 := eq_true q226
          have p227 : 0 ≤ (x5_1 : Int) := of_decide_eq_true (by first | (with_reducible assumption) | assumption)
          have q227 : x5_1 < (l0.length : Int) := of_decide_eq_true (by first | (with_reducible assumption) | assumption)
          obtain ⟨ad227, e227, hx227_0, hx227_1, hx227_2, hx227_3, hx227_4, hx227_5, hx227_6⟩ := at_T92 HR0.out x5_1 p227 q227
          obtain rfl : ad221 = ad227 := (by injection e227)
          replace hx227_0 := zb HB.out hx227_0
          replace hx227_1 := zb HB.out hx227_1
          replace hx227_2 := zb HB.out hx227_2
          replace hx227_3 := zb HB.out hx227_3
          replace hx227_4 := zb HB.out hx227_4
          replace hx227_5 := zb HB.out hx227_5
          replace hx227_6 := zb HB.out hx227_6
          replace p227 := eq_true p227
          replace q227 := eq_true q227
          try go_wp2
          go_ret
          exact ⟨by first | rfl | (simp [errW_none, errW_some] <;> rfl) | (simp [*, errW_none, errW_some] <;> rfl), by repeat (first | (with_reducible first | exact HB.out | apply ze | apply zc | apply zd) | exact HB.out)⟩
        ·rw [if_neg c10] at H
         have c10b0 : (((rd_T92 l0 x5_1).f3) == (wrap64 ((wrap64 ((wrap64 (x1_1 + 1)) + 1)) + 1))) = false := beq_eq_false_iff_ne.mpr c10
         have c10b1 : (((rd_T92 l0 x5_1).f3) != (wrap64 ((wrap64 ((wrap64 (x1_1 + 1)) + 1)) + 1))) = true := bne_iff_ne.mpr c10
         obtain rfl := Option.some.inj H
         try go_wp2
         have n0_ := Aside0.mk (zd HB.out)
         clear HB
         have HB := n0_
         clear n0_
         have p221 : 0 ≤ (x5_1 : Int) := of_decide_eq_true (by first | (with_reducible assumption) | assumption)
         have q221 : x5_1 < (l0.length : Int) := of_decide_eq_true (by first | (with_reducible assumption) | assumption)
         obtain ⟨ad221, e221, hx221_0, hx221_1, hx221_2, hx221_3, hx221_4, hx221_5, hx221_6⟩ := at_T92 HR0.out x5_1 p221 q221
         have hw221_6 := hx221_6
         have hw221_5 := hx221_5
         have hw221_4 := hx221_4
         have hw221_3 := hx221_3
         have hw221_2 := hx221_2
         have hw221_1 := hx221_1
         have hw221_0 := hx221_0
         cases e221
         replace hx221_0 := zb HB.out hx221_0
         replace hx221_1 := zb HB.out hx221_1
         replace hx221_2 := zb HB.out hx221_2
         replace hx221_3 := zb HB.out hx221_3
         replace hx221_4 := zb HB.out hx221_4
         replace hx221_5 := zb HB.out hx221_5
         replace hx221_6 := zb HB.out hx221_6
         replace p221 := eq_true p221
         replace q221 := eq_true q221
         refine start_ (n := 8) (S := fun w' => w'.cell? (ad221.add ((x5_1).toNat * 7)) = some (.string ((rd_T92 l0 x5_1).f0)) ∧ w'.cell? ⟨(ad221.add ((x5_1).toNat * 7)).block, (ad221.add ((x5_1).toNat * 7)).off + 1, none⟩ = some (.string ((rd_T92 l0 x5_1).f1)) ∧ w'.cell? ⟨(ad221.add ((x5_1).toNat * 7)).block, (ad221.add ((x5_1).toNat * 7)).off + 2, none⟩ = some (.int .i64 ((rd_T92 l0 x5_1).f2)) ∧ w'.cell? ⟨(ad221.add ((x5_1).toNat * 7)).block, (ad221.add ((x5_1).toNat * 7)).off + 3, none⟩ = some (.int .i64 ((rd_T92 l0 x5_1).f3)) ∧ w'.cell? ⟨(ad221.add ((x5_1).toNat * 7)).block, (ad221.add ((x5_1).toNat * 7)).off + 4, none⟩ = some (.int .i64 ((rd_T92 l0 x5_1).f4)) ∧ w'.cell? ⟨(ad221.add ((x5_1).toNat * 7)).block, (ad221.add ((x5_1).toNat * 7)).off + 5, none⟩ = some (.int .i64 ((rd_T92 l0 x5_1).f5)) ∧ w'.cell? ⟨(ad221.add ((x5_1).toNat * 7)).block, (ad221.add ((x5_1).toNat * 7)).off + 6, none⟩ = some (.int .i64 ((rd_T92 l0 x5_1).f6))) (ds := []) #[false, false, false, false, false, false, false, false] (by kernel_rfl) rfl rfl ⟨(zb HB.out hw221_0), (zb HB.out hw221_1), (zb HB.out hw221_2), (zb HB.out hw221_3), (zb HB.out hw221_4), (zb HB.out hw221_5), (zb HB.out hw221_6)⟩ (fun hHeld => ?_); refine with_tabW laws_heldNodeS.tab4 laws_heldNodeS.bits4 (fun HT_ HW_ => ?_)
         generalize wr.drew = w30 at HB hx221_0 hx221_1 hx221_2 hx221_3 hx221_4 hx221_5 hx221_6 hHeld ⊢
         refine zr (i := 0) (N := some 12) (v := ?_) (a' := ?_) #[true, false, false, false, false, false, false, false] rfl rfl (zn HT_.out (by kernel_rfl)) (fun _ _ _ h => h) (Or.inl ⟨by rfl, ?_⟩) ?_ ?_
         rotate_left
         ·intro w'
          go_simp
          with_reducible rfl
         rotate_left
         ·simp only [Act.put, List.setIfInBounds_toArray, List.set_cons_zero, List.set_cons_succ, zo, zp]
          rfl
         refine zr (i := 1) (N := some 13) (v := ?_) (a' := ?_) #[true, true, false, false, false, false, false, false] rfl rfl (zn HT_.out (by kernel_rfl)) (fun _ _ _ h => h) (Or.inl ⟨by rfl, ?_⟩) ?_ ?_
         rotate_left
         ·intro w'
          go_simp
          with_reducible rfl
         rotate_left
         ·simp only [Act.put, List.setIfInBounds_toArray, List.set_cons_zero, List.set_cons_succ, zo, zp]
          rfl
         refine zr (i := 2) (N := some 14) (v := ?_) (a' := ?_) #[true, true, true, false, false, false, false, false] rfl rfl (zn HT_.out (by kernel_rfl)) (fun _ _ _ h => h) (Or.inl ⟨by rfl, ?_⟩) ?_ ?_
         rotate_left
         ·intro w'
          go_simp
          with_reducible rfl
         rotate_left
         ·simp only [Act.put, List.setIfInBounds_toArray, List.set_cons_zero, List.set_cons_succ, zo, zp]
          rfl
         refine zr (i := 3) (N := some 15) (v := ?_) (a' := ?_) #[true, true, true, true, false, false, false, false] rfl rfl (zn HT_.out (by kernel_rfl)) (fun _ _ _ h => h) (Or.inl ⟨by rfl, ?_⟩) ?_ ?_
         rotate_left
         ·intro w'
          go_simp
          with_reducible rfl
         rotate_left
         ·simp only [Act.put, List.setIfInBounds_toArray, List.set_cons_zero, List.set_cons_succ, zo, zp]
          rfl
         refine zr (i := 5) (N := some 17) (v := ?_) (a' := ?_) #[true, true, true, true, false, true, false, false] rfl rfl (zn HT_.out (by kernel_rfl)) (fun _ _ _ h => h) (Or.inl ⟨by rfl, ?_⟩) ?_ ?_
         rotate_left
         ·intro w'
          go_simp
          with_reducible rfl
         rotate_left
         ·simp only [Act.put, List.setIfInBounds_toArray, List.set_cons_zero, List.set_cons_succ, zo, zp]
          rfl
         refine take_ (i := 4) (N := some 16) (v := ?_) (a' := ?_) #[true, true, true, true, true, true, false, false] rfl rfl (zA HT_.out HW_.out (by kernel_rfl)) (fun _ _ _ h => h) (Or.inl ⟨by rfl, ?_⟩) hHeld ?_ ?_
         rotate_left
         ·rintro w' ⟨s0, s1, s2, s3, s4, s5, s6⟩
          go_simp
          with_reducible rfl
         rotate_left
         ·simp only [Act.put, List.setIfInBounds_toArray, List.set_cons_zero, List.set_cons_succ, zo, zp]
          rfl
         refine one_ (i := 6) (N := some 18) #[true, true, true, true, true, true, true, false] rfl rfl (one_of HT_.out (by kernel_rfl)) (by decide) (fun K hK => ?_)
         refine goes_ Tryd.func101 (by kernel_rfl) rfl #[.int .i64 x1_1] (by rfl) rfl rfl (by (try simp only [List.map_toArray, List.map_cons, List.map_nil]); first | done | rfl | (simp only [List.length_drop, List.length_take]; rfl)) ?_
         with_reducible refine (laws_markText.calls k1 x1_1 t222 _ A5.out).mono ?_
         rintro e w31 ⟨rfl, hb⟩
         refine ⟨_, rfl, ?_⟩
         have n0_ := Aside0.mk (zl (by repeat (first | (with_reducible first | exact HB.out | apply ze | apply zc | apply zd) | exact HB.out)) hb)
         clear HB
         have HB := n0_
         clear n0_
         (try clear hb)
         (try clear hb2)
         (try clear hk)
         (try clear hi)
         refine hK.out _ _ ⟨(zb HB.out hw221_0), (zb HB.out hw221_1), (zb HB.out hw221_2), (zb HB.out hw221_3), (zb HB.out hw221_4), (zb HB.out hw221_5), (zb HB.out hw221_6)⟩ (fun hHeld => ?_)
         clear hK K
         refine norm_ (a' := ?_) ?_ ?_
         rotate_left
         ·show Act.put _ (some 18) _ = _
          simp only [Act.put, List.setIfInBounds_toArray, List.set_cons_zero, List.set_cons_succ, zo, zp]
          rfl
         refine zr (i := 7) (N := some 19) (v := ?_) (a' := ?_) #[true, true, true, true, true, true, true, true] rfl rfl (zn HT_.out (by kernel_rfl)) (fun _ _ _ h => h) (Or.inl ⟨by rfl, ?_⟩) ?_ ?_
         rotate_left
         ·intro w'
          go_simp
          with_reducible rfl
         rotate_left
         ·simp only [Act.put, List.setIfInBounds_toArray, List.set_cons_zero, List.set_cons_succ, zo, zp]
          rfl
         refine done_ (done_of HT_.out (by kernel_rfl)) ?_
         try go_wp2
         have n0_ := Aside0.mk (zd HB.out)
         clear HB
         have HB := n0_
         clear n0_
         have p223 : 0 ≤ (x5_1 : Int) := of_decide_eq_true (by first | (with_reducible assumption) | assumption)
         have q223 : x5_1 < (l0.length : Int) := of_decide_eq_true (by first | (with_reducible assumption) | assumption)
         obtain ⟨ad223, e223, hx223_0, hx223_1, hx223_2, hx223_3, hx223_4, hx223_5, hx223_6⟩ := at_T92 HR0.out x5_1 p223 q223
         have hw223_6 := hx223_6
         have hw223_5 := hx223_5
         have hw223_4 := hx223_4
         have hw223_3 := hx223_3
         have hw223_2 := hx223_2
         have hw223_1 := hx223_1
         have hw223_0 := hx223_0
         obtain rfl : ad221 = ad223 := (by injection e223)
         replace hx223_0 := zb HB.out hx223_0
         replace hx223_1 := zb HB.out hx223_1
         replace hx223_2 := zb HB.out hx223_2
         replace hx223_3 := zb HB.out hx223_3
         replace hx223_4 := zb HB.out hx223_4
         replace hx223_5 := zb HB.out hx223_5
         replace hx223_6 := zb HB.out hx223_6
         replace p223 := eq_true p223
         replace q223 := eq_true q223
         refine start_ (n := 8) (S := fun w' => w'.cell? (ad221.add ((x5_1).toNat * 7)) = some (.string ((rd_T92 l0 x5_1).f0)) ∧ w'.cell? ⟨(ad221.add ((x5_1).toNat * 7)).block, (ad221.add ((x5_1).toNat * 7)).off + 1, none⟩ = some (.string ((rd_T92 l0 x5_1).f1)) ∧ w'.cell? ⟨(ad221.add ((x5_1).toNat * 7)).block, (ad221.add ((x5_1).toNat * 7)).off + 2, none⟩ = some (.int .i64 ((rd_T92 l0 x5_1).f2)) ∧ w'.cell? ⟨(ad221.add ((x5_1).toNat * 7)).block, (ad221.add ((x5_1).toNat * 7)).off + 3, none⟩ = some (.int .i64 ((rd_T92 l0 x5_1).f3)) ∧ w'.cell? ⟨(ad221.add ((x5_1).toNat * 7)).block, (ad221.add ((x5_1).toNat * 7)).off + 4, none⟩ = some (.int .i64 ((rd_T92 l0 x5_1).f4)) ∧ w'.cell? ⟨(ad221.add ((x5_1).toNat * 7)).block, (ad221.add ((x5_1).toNat * 7)).off + 5, none⟩ = some (.int .i64 ((rd_T92 l0 x5_1).f5)) ∧ w'.cell? ⟨(ad221.add ((x5_1).toNat * 7)).block, (ad221.add ((x5_1).toNat * 7)).off + 6, none⟩ = some (.int .i64 ((rd_T92 l0 x5_1).f6))) (ds := []) #[false, false, false, false, false, false, false, false] (by kernel_rfl) rfl rfl ⟨(zb HB.out hw223_0), (zb HB.out hw223_1), (zb HB.out hw223_2), (zb HB.out hw223_3), (zb HB.out hw223_4), (zb HB.out hw223_5), (zb HB.out hw223_6)⟩ (fun hHeld => ?_); refine with_tabW laws_heldNodeS.tab7 laws_heldNodeS.bits7 (fun HT_ HW_ => ?_)
         generalize w31.drew = w32 at HB hx223_0 hx223_1 hx223_2 hx223_3 hx223_4 hx223_5 hx223_6 hHeld ⊢
         refine zr (i := 0) (N := some 22) (v := ?_) (a' := ?_) #[true, false, false, false, false, false, false, false] rfl rfl (zn HT_.out (by kernel_rfl)) (fun _ _ _ h => h) (Or.inl ⟨by rfl, ?_⟩) ?_ ?_
         rotate_left
         ·intro w'
          go_simp
          with_reducible rfl
         rotate_left
         ·simp only [Act.put, List.setIfInBounds_toArray, List.set_cons_zero, List.set_cons_succ, zo, zp]
          rfl
         refine zr (i := 1) (N := some 23) (v := ?_) (a' := ?_) #[true, true, false, false, false, false, false, false] rfl rfl (zn HT_.out (by kernel_rfl)) (fun _ _ _ h => h) (Or.inl ⟨by rfl, ?_⟩) ?_ ?_
         rotate_left
         ·intro w'
          go_simp
          with_reducible rfl
         rotate_left
         ·simp only [Act.put, List.setIfInBounds_toArray, List.set_cons_zero, List.set_cons_succ, zo, zp]
          rfl
         refine zr (i := 2) (N := some 24) (v := ?_) (a' := ?_) #[true, true, true, false, false, false, false, false] rfl rfl (zn HT_.out (by kernel_rfl)) (fun _ _ _ h => h) (Or.inl ⟨by rfl, ?_⟩) ?_ ?_
         rotate_left
         ·intro w'
          go_simp
          with_reducible rfl
         rotate_left
         ·simp only [Act.put, List.setIfInBounds_toArray, List.set_cons_zero, List.set_cons_succ, zo, zp]
          rfl
         refine zr (i := 3) (N := some 25) (v := ?_) (a' := ?_) #[true, true, true, true, false, false, false, false] rfl rfl (zn HT_.out (by kernel_rfl)) (fun _ _ _ h => h) (Or.inl ⟨by rfl, ?_⟩) ?_ ?_
         rotate_left
         ·intro w'
          go_simp
          with_reducible rfl
         rotate_left
         ·simp only [Act.put, List.setIfInBounds_toArray, List.set_cons_zero, List.set_cons_succ, zo, zp]
          rfl
         refine zr (i := 5) (N := some 27) (v := ?_) (a' := ?_) #[true, true, true, true, false, true, false, false] rfl rfl (zn HT_.out (by kernel_rfl)) (fun _ _ _ h => h) (Or.inl ⟨by rfl, ?_⟩) ?_ ?_
         rotate_left
         ·intro w'
          go_simp
          with_reducible rfl
         rotate_left
         ·simp only [Act.put, List.setIfInBounds_toArray, List.set_cons_zero, List.set_cons_succ, zo, zp]
          rfl
         refine take_ (i := 4) (N := some 26) (v := ?_) (a' := ?_) #[true, true, true, true, true, true, false, false] rfl rfl (zA HT_.out HW_.out (by kernel_rfl)) (fun _ _ _ h => h) (Or.inl ⟨by rfl, ?_⟩) hHeld ?_ ?_
         rotate_left
         ·rintro w' ⟨s0, s1, s2, s3, s4, s5, s6⟩
          go_simp
          with_reducible rfl
         rotate_left
         ·simp only [Act.put, List.setIfInBounds_toArray, List.set_cons_zero, List.set_cons_succ, zo, zp]
          rfl
         refine one_ (i := 6) (N := some 28) #[true, true, true, true, true, true, true, false] rfl rfl (one_of HT_.out (by kernel_rfl)) (by decide) (fun K hK => ?_)
         refine goes_ Tryd.func101 (by kernel_rfl) rfl #[.int .i64 (wrap64 (x1_1 + 1))] (by rfl) rfl rfl (by (try simp only [List.map_toArray, List.map_cons, List.map_nil]); first | done | rfl | (simp only [List.length_drop, List.length_take]; rfl)) ?_
         with_reducible refine (laws_markText.calls k1 (wrap64 (x1_1 + 1)) t224 _ A7.out).mono ?_
         rintro e w33 ⟨rfl, hb⟩
         refine ⟨_, rfl, ?_⟩
         have n0_ := Aside0.mk (zl (by repeat (first | (with_reducible first | exact HB.out | apply ze | apply zc | apply zd) | exact HB.out)) hb)
         clear HB
         have HB := n0_
         clear n0_
         (try clear hb)
         (try clear hb2)
         (try clear hk)
         (try clear hi)
         refine hK.out _ _ ⟨(zb HB.out hw223_0), (zb HB.out hw223_1), (zb HB.out hw223_2), (zb HB.out hw223_3), (zb HB.out hw223_4), (zb HB.out hw223_5), (zb HB.out hw223_6)⟩ (fun hHeld => ?_)
         clear hK K
         refine norm_ (a' := ?_) ?_ ?_
         rotate_left
         ·show Act.put _ (some 28) _ = _
          simp only [Act.put, List.setIfInBounds_toArray, List.set_cons_zero, List.set_cons_succ, zo, zp]
          rfl
         refine zr (i := 7) (N := some 29) (v := ?_) (a' := ?_) #[true, true, true, true, true, true, true, true] rfl rfl (zn HT_.out (by kernel_rfl)) (fun _ _ _ h => h) (Or.inl ⟨by rfl, ?_⟩) ?_ ?_
         rotate_left
         ·intro w'
          go_simp
          with_reducible rfl
         rotate_left
         ·simp only [Act.put, List.setIfInBounds_toArray, List.set_cons_zero, List.set_cons_succ, zo, zp]
          rfl
         refine done_ (done_of HT_.out (by kernel_rfl)) ?_
         have p225 : 0 ≤ (x5_1 : Int) := of_decide_eq_true (by first | (with_reducible assumption) | assumption)
         have q225 : x5_1 < (l0.length : Int) := of_decide_eq_true (by first | (with_reducible assumption) | assumption)
         obtain ⟨ad225, e225, hx225_0, hx225_1, hx225_2, hx225_3, hx225_4, hx225_5, hx225_6⟩ := at_T92 HR0.out x5_1 p225 q225
         obtain rfl : ad221 = ad225 := (by injection e225)
         replace hx225_0 := zb HB.out hx225_0
         replace hx225_1 := zb HB.out hx225_1
         replace hx225_2 := zb HB.out hx225_2
         replace hx225_3 := zb HB.out hx225_3
         replace hx225_4 := zb HB.out hx225_4
         replace hx225_5 := zb HB.out hx225_5
         replace hx225_6 := zb HB.out hx225_6
         replace p225 := eq_true p225
         replace q225 := eq_true q225
         have p226 : 0 ≤ (x5_1 : Int) := of_decide_eq_true (by first | (with_reducible assumption) | assumption)
         have q226 : x5_1 < (l0.length : Int) := of_decide_eq_true (by first | (with_reducible assumption) | assumption)
         obtain ⟨ad226, e226, hx226_0, hx226_1, hx226_2, hx226_3, hx226_4, hx226_5, hx226_6⟩ := at_T92 HR0.out x5_1 p226 q226
         obtain rfl : ad221 = ad226 := (by injection e226)
         replace hx226_0 := zb HB.out hx226_0
         replace hx226_1 := zb HB.out hx226_1
         replace hx226_2 := zb HB.out hx226_2
         replace hx226_3 := zb HB.out hx226_3
         replace hx226_4 := zb HB.out hx226_4
         replace hx226_5 := zb HB.out hx226_5
         replace hx226_6 := zb HB.out hx226_6
         replace p226 := eq_true p226
         replace q226 := eq_true q226
         try go_wp2
         go_ret
         exact ⟨by first | rfl | (simp [errW_none, errW_some] <;> rfl) | (simp [*, errW_none, errW_some] <;> rfl), by repeat (first | (with_reducible first | exact HB.out | apply ze | apply zc | apply zd) | exact HB.out)⟩
       ·rw [if_neg c9] at H
        have c9b0 : (((rd_T92 l0 x5_1).f2) == (wrap64 ((wrap64 (x1_1 + 1)) + 1))) = false := beq_eq_false_iff_ne.mpr c9
        have c9b1 : (((rd_T92 l0 x5_1).f2) != (wrap64 ((wrap64 (x1_1 + 1)) + 1))) = true := bne_iff_ne.mpr c9
        obtain rfl := Option.some.inj H
        try go_wp2
        have n0_ := Aside0.mk (zd HB.out)
        clear HB
        have HB := n0_
        clear n0_
        have p221 : 0 ≤ (x5_1 : Int) := of_decide_eq_true (by first | (with_reducible assumption) | assumption)
        have q221 : x5_1 < (l0.length : Int) := of_decide_eq_true (by first | (with_reducible assumption) | assumption)
        obtain ⟨ad221, e221, hx221_0, hx221_1, hx221_2, hx221_3, hx221_4, hx221_5, hx221_6⟩ := at_T92 HR0.out x5_1 p221 q221
        have hw221_6 := hx221_6
        have hw221_5 := hx221_5
        have hw221_4 := hx221_4
        have hw221_3 := hx221_3
        have hw221_2 := hx221_2
        have hw221_1 := hx221_1
        have hw221_0 := hx221_0
        cases e221
        replace hx221_0 := zb HB.out hx221_0
        replace hx221_1 := zb HB.out hx221_1
        replace hx221_2 := zb HB.out hx221_2
        replace hx221_3 := zb HB.out hx221_3
        replace hx221_4 := zb HB.out hx221_4
        replace hx221_5 := zb HB.out hx221_5
        replace hx221_6 := zb HB.out hx221_6
        replace p221 := eq_true p221
        replace q221 := eq_true q221
        refine start_ (n := 8) (S := fun w' => w'.cell? (ad221.add ((x5_1).toNat * 7)) = some (.string ((rd_T92 l0 x5_1).f0)) ∧ w'.cell? ⟨(ad221.add ((x5_1).toNat * 7)).block, (ad221.add ((x5_1).toNat * 7)).off + 1, none⟩ = some (.string ((rd_T92 l0 x5_1).f1)) ∧ w'.cell? ⟨(ad221.add ((x5_1).toNat * 7)).block, (ad221.add ((x5_1).toNat * 7)).off + 2, none⟩ = some (.int .i64 ((rd_T92 l0 x5_1).f2)) ∧ w'.cell? ⟨(ad221.add ((x5_1).toNat * 7)).block, (ad221.add ((x5_1).toNat * 7)).off + 3, none⟩ = some (.int .i64 ((rd_T92 l0 x5_1).f3)) ∧ w'.cell? ⟨(ad221.add ((x5_1).toNat * 7)).block, (ad221.add ((x5_1).toNat * 7)).off + 4, none⟩ = some (.int .i64 ((rd_T92 l0 x5_1).f4)) ∧ w'.cell? ⟨(ad221.add ((x5_1).toNat * 7)).block, (ad221.add ((x5_1).toNat * 7)).off + 5, none⟩ = some (.int .i64 ((rd_T92 l0 x5_1).f5)) ∧ w'.cell? ⟨(ad221.add ((x5_1).toNat * 7)).block, (ad221.add ((x5_1).toNat * 7)).off + 6, none⟩ = some (.int .i64 ((rd_T92 l0 x5_1).f6))) (ds := []) #[false, false, false, false, false, false, false, false] (by kernel_rfl) rfl rfl ⟨(zb HB.out hw221_0), (zb HB.out hw221_1), (zb HB.out hw221_2), (zb HB.out hw221_3), (zb HB.out hw221_4), (zb HB.out hw221_5), (zb HB.out hw221_6)⟩ (fun hHeld => ?_); refine with_tabW laws_heldNodeS.tab4 laws_heldNodeS.bits4 (fun HT_ HW_ => ?_)
        generalize wr.drew = w34 at HB hx221_0 hx221_1 hx221_2 hx221_3 hx221_4 hx221_5 hx221_6 hHeld ⊢
        refine zr (i := 0) (N := some 12) (v := ?_) (a' := ?_) #[true, false, false, false, false, false, false, false] rfl rfl (zn HT_.out (by kernel_rfl)) (fun _ _ _ h => h) (Or.inl ⟨by rfl, ?_⟩) ?_ ?_
        rotate_left
        ·intro w'
         go_simp
         with_reducible rfl
        rotate_left
        ·simp only [Act.put, List.setIfInBounds_toArray, List.set_cons_zero, List.set_cons_succ, zo, zp]
         rfl
        refine zr (i := 1) (N := some 13) (v := ?_) (a' := ?_) #[true, true, false, false, false, false, false, false] rfl rfl (zn HT_.out (by kernel_rfl)) (fun _ _ _ h => h) (Or.inl ⟨by rfl, ?_⟩) ?_ ?_
        rotate_left
        ·intro w'
         go_simp
         with_reducible rfl
        rotate_left
        ·simp only [Act.put, List.setIfInBounds_toArray, List.set_cons_zero, List.set_cons_succ, zo, zp]
         rfl
        refine zr (i := 2) (N := some 14) (v := ?_) (a' := ?_) #[true, true, true, false, false, false, false, false] rfl rfl (zn HT_.out (by kernel_rfl)) (fun _ _ _ h => h) (Or.inl ⟨by rfl, ?_⟩) ?_ ?_
        rotate_left
        ·intro w'
         go_simp
         with_reducible rfl
        rotate_left
        ·simp only [Act.put, List.setIfInBounds_toArray, List.set_cons_zero, List.set_cons_succ, zo, zp]
         rfl
        refine zr (i := 3) (N := some 15) (v := ?_) (a' := ?_) #[true, true, true, true, false, false, false, false] rfl rfl (zn HT_.out (by kernel_rfl)) (fun _ _ _ h => h) (Or.inl ⟨by rfl, ?_⟩) ?_ ?_
        rotate_left
        ·intro w'
         go_simp
         with_reducible rfl
        rotate_left
        ·simp only [Act.put, List.setIfInBounds_toArray, List.set_cons_zero, List.set_cons_succ, zo, zp]
         rfl
        refine zr (i := 5) (N := some 17) (v := ?_) (a' := ?_) #[true, true, true, true, false, true, false, false] rfl rfl (zn HT_.out (by kernel_rfl)) (fun _ _ _ h => h) (Or.inl ⟨by rfl, ?_⟩) ?_ ?_
        rotate_left
        ·intro w'
         go_simp
         with_reducible rfl
        rotate_left
        ·simp only [Act.put, List.setIfInBounds_toArray, List.set_cons_zero, List.set_cons_succ, zo, zp]
         rfl
        refine take_ (i := 4) (N := some 16) (v := ?_) (a' := ?_) #[true, true, true, true, true, true, false, false] rfl rfl (zA HT_.out HW_.out (by kernel_rfl)) (fun _ _ _ h => h) (Or.inl ⟨by rfl, ?_⟩) hHeld ?_ ?_
        rotate_left
        ·rintro w' ⟨s0, s1, s2, s3, s4, s5, s6⟩
         go_simp
         with_reducible rfl
        rotate_left
        ·simp only [Act.put, List.setIfInBounds_toArray, List.set_cons_zero, List.set_cons_succ, zo, zp]
         rfl
        refine one_ (i := 6) (N := some 18) #[true, true, true, true, true, true, true, false] rfl rfl (one_of HT_.out (by kernel_rfl)) (by decide) (fun K hK => ?_)
        refine goes_ Tryd.func101 (by kernel_rfl) rfl #[.int .i64 x1_1] (by rfl) rfl rfl (by (try simp only [List.map_toArray, List.map_cons, List.map_nil]); first | done | rfl | (simp only [List.length_drop, List.length_take]; rfl)) ?_
        with_reducible refine (laws_markText.calls k1 x1_1 t222 _ A5.out).mono ?_
        rintro e w35 ⟨rfl, hb⟩
        refine ⟨_, rfl, ?_⟩
        have n0_ := Aside0.mk (zl (by repeat (first | (with_reducible first | exact HB.out | apply ze | apply zc | apply zd) | exact HB.out)) hb)
        clear HB
        have HB := n0_
        clear n0_
        (try clear hb)
        (try clear hb2)
        (try clear hk)
        (try clear hi)
        refine hK.out _ _ ⟨(zb HB.out hw221_0), (zb HB.out hw221_1), (zb HB.out hw221_2), (zb HB.out hw221_3), (zb HB.out hw221_4), (zb HB.out hw221_5), (zb HB.out hw221_6)⟩ (fun hHeld => ?_)
        clear hK K
        refine norm_ (a' := ?_) ?_ ?_
        rotate_left
        ·show Act.put _ (some 18) _ = _
         simp only [Act.put, List.setIfInBounds_toArray, List.set_cons_zero, List.set_cons_succ, zo, zp]
         rfl
        refine zr (i := 7) (N := some 19) (v := ?_) (a' := ?_) #[true, true, true, true, true, true, true, true] rfl rfl (zn HT_.out (by kernel_rfl)) (fun _ _ _ h => h) (Or.inl ⟨by rfl, ?_⟩) ?_ ?_
        rotate_left
        ·intro w'
         go_simp
         with_reducible rfl
        rotate_left
        ·simp only [Act.put, List.setIfInBounds_toArray, List.set_cons_zero, List.set_cons_succ, zo, zp]
         rfl
        refine done_ (done_of HT_.out (by kernel_rfl)) ?_
        try go_wp2
        have n0_ := Aside0.mk (zd HB.out)
        clear HB
        have HB := n0_
        clear n0_
        have p223 : 0 ≤ (x5_1 : Int) := of_decide_eq_true (by first | (with_reducible assumption) | assumption)
        have q223 : x5_1 < (l0.length : Int) := of_decide_eq_true (by first | (with_reducible assumption) | assumption)
        obtain ⟨ad223, e223, hx223_0, hx223_1, hx223_2, hx223_3, hx223_4, hx223_5, hx223_6⟩ := at_T92 HR0.out x5_1 p223 q223
        have hw223_6 := hx223_6
        have hw223_5 := hx223_5
        have hw223_4 := hx223_4
        have hw223_3 := hx223_3
        have hw223_2 := hx223_2
        have hw223_1 := hx223_1
        have hw223_0 := hx223_0
        obtain rfl : ad221 = ad223 := (by injection e223)
        replace hx223_0 := zb HB.out hx223_0
        replace hx223_1 := zb HB.out hx223_1
        replace hx223_2 := zb HB.out hx223_2
        replace hx223_3 := zb HB.out hx223_3
        replace hx223_4 := zb HB.out hx223_4
        replace hx223_5 := zb HB.out hx223_5
        replace hx223_6 := zb HB.out hx223_6
        replace p223 := eq_true p223
        replace q223 := eq_true q223
        refine start_ (n := 8) (S := fun w' => w'.cell? (ad221.add ((x5_1).toNat * 7)) = some (.string ((rd_T92 l0 x5_1).f0)) ∧ w'.cell? ⟨(ad221.add ((x5_1).toNat * 7)).block, (ad221.add ((x5_1).toNat * 7)).off + 1, none⟩ = some (.string ((rd_T92 l0 x5_1).f1)) ∧ w'.cell? ⟨(ad221.add ((x5_1).toNat * 7)).block, (ad221.add ((x5_1).toNat * 7)).off + 2, none⟩ = some (.int .i64 ((rd_T92 l0 x5_1).f2)) ∧ w'.cell? ⟨(ad221.add ((x5_1).toNat * 7)).block, (ad221.add ((x5_1).toNat * 7)).off + 3, none⟩ = some (.int .i64 ((rd_T92 l0 x5_1).f3)) ∧ w'.cell? ⟨(ad221.add ((x5_1).toNat * 7)).block, (ad221.add ((x5_1).toNat * 7)).off + 4, none⟩ = some (.int .i64 ((rd_T92 l0 x5_1).f4)) ∧ w'.cell? ⟨(ad221.add ((x5_1).toNat * 7)).block, (ad221.add ((x5_1).toNat * 7)).off + 5, none⟩ = some (.int .i64 ((rd_T92 l0 x5_1).f5)) ∧ w'.cell? ⟨(ad221.add ((x5_1).toNat * 7)).block, (ad221.add ((x5_1).toNat * 7)).off + 6, none⟩ = some (.int .i64 ((rd_T92 l0 x5_1).f6))) (ds := []) #[false, false, false, false, false, false, false, false] (by kernel_rfl) rfl rfl ⟨(zb HB.out hw223_0), (zb HB.out hw223_1), (zb HB.out hw223_2), (zb HB.out hw223_3), (zb HB.out hw223_4), (zb HB.out hw223_5), (zb HB.out hw223_6)⟩ (fun hHeld => ?_); refine with_tabW laws_heldNodeS.tab7 laws_heldNodeS.bits7 (fun HT_ HW_ => ?_)
        generalize w35.drew = w36 at HB hx223_0 hx223_1 hx223_2 hx223_3 hx223_4 hx223_5 hx223_6 hHeld ⊢
        refine zr (i := 0) (N := some 22) (v := ?_) (a' := ?_) #[true, false, false, false, false, false, false, false] rfl rfl (zn HT_.out (by kernel_rfl)) (fun _ _ _ h => h) (Or.inl ⟨by rfl, ?_⟩) ?_ ?_
        rotate_left
        ·intro w'
         go_simp
         with_reducible rfl
        rotate_left
        ·simp only [Act.put, List.setIfInBounds_toArray, List.set_cons_zero, List.set_cons_succ, zo, zp]
         rfl
        refine zr (i := 1) (N := some 23) (v := ?_) (a' := ?_) #[true, true, false, false, false, false, false, false] rfl rfl (zn HT_.out (by kernel_rfl)) (fun _ _ _ h => h) (Or.inl ⟨by rfl, ?_⟩) ?_ ?_
        rotate_left
        ·intro w'
         go_simp
         with_reducible rfl
        rotate_left
        ·simp only [Act.put, List.setIfInBounds_toArray, List.set_cons_zero, List.set_cons_succ, zo, zp]
         rfl
        refine zr (i := 2) (N := some 24) (v := ?_) (a' := ?_) #[true, true, true, false, false, false, false, false] rfl rfl (zn HT_.out (by kernel_rfl)) (fun _ _ _ h => h) (Or.inl ⟨by rfl, ?_⟩) ?_ ?_
        rotate_left
        ·intro w'
         go_simp
         with_reducible rfl
        rotate_left
        ·simp only [Act.put, List.setIfInBounds_toArray, List.set_cons_zero, List.set_cons_succ, zo, zp]
         rfl
        refine zr (i := 3) (N := some 25) (v := ?_) (a' := ?_) #[true, true, true, true, false, false, false, false] rfl rfl (zn HT_.out (by kernel_rfl)) (fun _ _ _ h => h) (Or.inl ⟨by rfl, ?_⟩) ?_ ?_
        rotate_left
        ·intro w'
         go_simp
         with_reducible rfl
        rotate_left
        ·simp only [Act.put, List.setIfInBounds_toArray, List.set_cons_zero, List.set_cons_succ, zo, zp]
         rfl
        refine zr (i := 5) (N := some 27) (v := ?_) (a' := ?_) #[true, true, true, true, false, true, false, false] rfl rfl (zn HT_.out (by kernel_rfl)) (fun _ _ _ h => h) (Or.inl ⟨by rfl, ?_⟩) ?_ ?_
        rotate_left
        ·intro w'
         go_simp
         with_reducible rfl
        rotate_left
        ·simp only [Act.put, List.setIfInBounds_toArray, List.set_cons_zero, List.set_cons_succ, zo, zp]
         rfl
        refine take_ (i := 4) (N := some 26) (v := ?_) (a' := ?_) #[true, true, true, true, true, true, false, false] rfl rfl (zA HT_.out HW_.out (by kernel_rfl)) (fun _ _ _ h => h) (Or.inl ⟨by rfl, ?_⟩) hHeld ?_ ?_
        rotate_left
        ·rintro w' ⟨s0, s1, s2, s3, s4, s5, s6⟩
         go_simp
         with_reducible rfl
        rotate_left
        ·simp only [Act.put, List.setIfInBounds_toArray, List.set_cons_zero, List.set_cons_succ, zo, zp]
         rfl
        refine one_ (i := 6) (N := some 28) #[true, true, true, true, true, true, true, false] rfl rfl (one_of HT_.out (by kernel_rfl)) (by decide) (fun K hK => ?_)
        refine goes_ Tryd.func101 (by kernel_rfl) rfl #[.int .i64 (wrap64 (x1_1 + 1))] (by rfl) rfl rfl (by (try simp only [List.map_toArray, List.map_cons, List.map_nil]); first | done | rfl | (simp only [List.length_drop, List.length_take]; rfl)) ?_
        with_reducible refine (laws_markText.calls k1 (wrap64 (x1_1 + 1)) t224 _ A7.out).mono ?_
        rintro e w37 ⟨rfl, hb⟩
        refine ⟨_, rfl, ?_⟩
        have n0_ := Aside0.mk (zl (by repeat (first | (with_reducible first | exact HB.out | apply ze | apply zc | apply zd) | exact HB.out)) hb)
        clear HB
        have HB := n0_
        clear n0_
        (try clear hb)
        (try clear hb2)
        (try clear hk)
        (try clear hi)
        refine hK.out _ _ ⟨(zb HB.out hw223_0), (zb HB.out hw223_1), (zb HB.out hw223_2), (zb HB.out hw223_3), (zb HB.out hw223_4), (zb HB.out hw223_5), (zb HB.out hw223_6)⟩ (fun hHeld => ?_)
        clear hK K
        refine norm_ (a' := ?_) ?_ ?_
        rotate_left
        ·show Act.put _ (some 28) _ = _
         simp only [Act.put, List.setIfInBounds_toArray, List.set_cons_zero, List.set_cons_succ, zo, zp]
         rfl
        refine zr (i := 7) (N := some 29) (v := ?_) (a' := ?_) #[true, true, true, true, true, true, true, true] rfl rfl (zn HT_.out (by kernel_rfl)) (fun _ _ _ h => h) (Or.inl ⟨by rfl, ?_⟩) ?_ ?_
        rotate_left
        ·intro w'
         go_simp
         with_reducible rfl
        rotate_left
        ·simp only [Act.put, List.setIfInBounds_toArray, List.set_cons_zero, List.set_cons_succ, zo, zp]
         rfl
        refine done_ (done_of HT_.out (by kernel_rfl)) ?_
        have p225 : 0 ≤ (x5_1 : Int) := of_decide_eq_true (by first | (with_reducible assumption) | assumption)
        have q225 : x5_1 < (l0.length : Int) := of_decide_eq_true (by first | (with_reducible assumption) | assumption)
        obtain ⟨ad225, e225, hx225_0, hx225_1, hx225_2, hx225_3, hx225_4, hx225_5, hx225_6⟩ := at_T92 HR0.out x5_1 p225 q225
        obtain rfl : ad221 = ad225 := (by injection e225)
        replace hx225_0 := zb HB.out hx225_0
        replace hx225_1 := zb HB.out hx225_1
        replace hx225_2 := zb HB.out hx225_2
        replace hx225_3 := zb HB.out hx225_3
        replace hx225_4 := zb HB.out hx225_4
        replace hx225_5 := zb HB.out hx225_5
        replace hx225_6 := zb HB.out hx225_6
        replace p225 := eq_true p225
        replace q225 := eq_true q225
        try go_wp2
        go_ret
        exact ⟨by first | rfl | (simp [errW_none, errW_some] <;> rfl) | (simp [*, errW_none, errW_some] <;> rfl), by repeat (first | (with_reducible first | exact HB.out | apply ze | apply zc | apply zd) | exact HB.out)⟩
      ·rw [if_neg c8] at H
       have c8b0 : (((rd_T92 l0 x5_1).f1).toList == t224.toList) = false := beq_eq_false_iff_ne.mpr c8
       have c8b1 : (((rd_T92 l0 x5_1).f1).toList != t224.toList) = true := bne_iff_ne.mpr c8
       obtain rfl := Option.some.inj H
       try go_wp2
       have n0_ := Aside0.mk (zd HB.out)
       clear HB
       have HB := n0_
       clear n0_
       have p221 : 0 ≤ (x5_1 : Int) := of_decide_eq_true (by first | (with_reducible assumption) | assumption)
       have q221 : x5_1 < (l0.length : Int) := of_decide_eq_true (by first | (with_reducible assumption) | assumption)
       obtain ⟨ad221, e221, hx221_0, hx221_1, hx221_2, hx221_3, hx221_4, hx221_5, hx221_6⟩ := at_T92 HR0.out x5_1 p221 q221
       have hw221_6 := hx221_6
       have hw221_5 := hx221_5
       have hw221_4 := hx221_4
       have hw221_3 := hx221_3
       have hw221_2 := hx221_2
       have hw221_1 := hx221_1
       have hw221_0 := hx221_0
       cases e221
       replace hx221_0 := zb HB.out hx221_0
       replace hx221_1 := zb HB.out hx221_1
       replace hx221_2 := zb HB.out hx221_2
       replace hx221_3 := zb HB.out hx221_3
       replace hx221_4 := zb HB.out hx221_4
       replace hx221_5 := zb HB.out hx221_5
       replace hx221_6 := zb HB.out hx221_6
       replace p221 := eq_true p221
       replace q221 := eq_true q221
       refine start_ (n := 8) (S := fun w' => w'.cell? (ad221.add ((x5_1).toNat * 7)) = some (.string ((rd_T92 l0 x5_1).f0)) ∧ w'.cell? ⟨(ad221.add ((x5_1).toNat * 7)).block, (ad221.add ((x5_1).toNat * 7)).off + 1, none⟩ = some (.string ((rd_T92 l0 x5_1).f1)) ∧ w'.cell? ⟨(ad221.add ((x5_1).toNat * 7)).block, (ad221.add ((x5_1).toNat * 7)).off + 2, none⟩ = some (.int .i64 ((rd_T92 l0 x5_1).f2)) ∧ w'.cell? ⟨(ad221.add ((x5_1).toNat * 7)).block, (ad221.add ((x5_1).toNat * 7)).off + 3, none⟩ = some (.int .i64 ((rd_T92 l0 x5_1).f3)) ∧ w'.cell? ⟨(ad221.add ((x5_1).toNat * 7)).block, (ad221.add ((x5_1).toNat * 7)).off + 4, none⟩ = some (.int .i64 ((rd_T92 l0 x5_1).f4)) ∧ w'.cell? ⟨(ad221.add ((x5_1).toNat * 7)).block, (ad221.add ((x5_1).toNat * 7)).off + 5, none⟩ = some (.int .i64 ((rd_T92 l0 x5_1).f5)) ∧ w'.cell? ⟨(ad221.add ((x5_1).toNat * 7)).block, (ad221.add ((x5_1).toNat * 7)).off + 6, none⟩ = some (.int .i64 ((rd_T92 l0 x5_1).f6))) (ds := []) #[false, false, false, false, false, false, false, false] (by kernel_rfl) rfl rfl ⟨(zb HB.out hw221_0), (zb HB.out hw221_1), (zb HB.out hw221_2), (zb HB.out hw221_3), (zb HB.out hw221_4), (zb HB.out hw221_5), (zb HB.out hw221_6)⟩ (fun hHeld => ?_); refine with_tabW laws_heldNodeS.tab4 laws_heldNodeS.bits4 (fun HT_ HW_ => ?_)
       generalize wr.drew = w38 at HB hx221_0 hx221_1 hx221_2 hx221_3 hx221_4 hx221_5 hx221_6 hHeld ⊢
       refine zr (i := 0) (N := some 12) (v := ?_) (a' := ?_) #[true, false, false, false, false, false, false, false] rfl rfl (zn HT_.out (by kernel_rfl)) (fun _ _ _ h => h) (Or.inl ⟨by rfl, ?_⟩) ?_ ?_
       rotate_left
       ·intro w'
        go_simp
        with_reducible rfl
       rotate_left
       ·simp only [Act.put, List.setIfInBounds_toArray, List.set_cons_zero, List.set_cons_succ, zo, zp]
        rfl
       refine zr (i := 1) (N := some 13) (v := ?_) (a' := ?_) #[true, true, false, false, false, false, false, false] rfl rfl (zn HT_.out (by kernel_rfl)) (fun _ _ _ h => h) (Or.inl ⟨by rfl, ?_⟩) ?_ ?_
       rotate_left
       ·intro w'
        go_simp
        with_reducible rfl
       rotate_left
       ·simp only [Act.put, List.setIfInBounds_toArray, List.set_cons_zero, List.set_cons_succ, zo, zp]
        rfl
       refine zr (i := 2) (N := some 14) (v := ?_) (a' := ?_) #[true, true, true, false, false, false, false, false] rfl rfl (zn HT_.out (by kernel_rfl)) (fun _ _ _ h => h) (Or.inl ⟨by rfl, ?_⟩) ?_ ?_
       rotate_left
       ·intro w'
        go_simp
        with_reducible rfl
       rotate_left
       ·simp only [Act.put, List.setIfInBounds_toArray, List.set_cons_zero, List.set_cons_succ, zo, zp]
        rfl
       refine zr (i := 3) (N := some 15) (v := ?_) (a' := ?_) #[true, true, true, true, false, false, false, false] rfl rfl (zn HT_.out (by kernel_rfl)) (fun _ _ _ h => h) (Or.inl ⟨by rfl, ?_⟩) ?_ ?_
       rotate_left
       ·intro w'
        go_simp
        with_reducible rfl
       rotate_left
       ·simp only [Act.put, List.setIfInBounds_toArray, List.set_cons_zero, List.set_cons_succ, zo, zp]
        rfl
       refine zr (i := 5) (N := some 17) (v := ?_) (a' := ?_) #[true, true, true, true, false, true, false, false] rfl rfl (zn HT_.out (by kernel_rfl)) (fun _ _ _ h => h) (Or.inl ⟨by rfl, ?_⟩) ?_ ?_
       rotate_left
       ·intro w'
        go_simp
        with_reducible rfl
       rotate_left
       ·simp only [Act.put, List.setIfInBounds_toArray, List.set_cons_zero, List.set_cons_succ, zo, zp]
        rfl
       refine take_ (i := 4) (N := some 16) (v := ?_) (a' := ?_) #[true, true, true, true, true, true, false, false] rfl rfl (zA HT_.out HW_.out (by kernel_rfl)) (fun _ _ _ h => h) (Or.inl ⟨by rfl, ?_⟩) hHeld ?_ ?_
       rotate_left
       ·rintro w' ⟨s0, s1, s2, s3, s4, s5, s6⟩
        go_simp
        with_reducible rfl
       rotate_left
       ·simp only [Act.put, List.setIfInBounds_toArray, List.set_cons_zero, List.set_cons_succ, zo, zp]
        rfl
       refine one_ (i := 6) (N := some 18) #[true, true, true, true, true, true, true, false] rfl rfl (one_of HT_.out (by kernel_rfl)) (by decide) (fun K hK => ?_)
       refine goes_ Tryd.func101 (by kernel_rfl) rfl #[.int .i64 x1_1] (by rfl) rfl rfl (by (try simp only [List.map_toArray, List.map_cons, List.map_nil]); first | done | rfl | (simp only [List.length_drop, List.length_take]; rfl)) ?_
       with_reducible refine (laws_markText.calls k1 x1_1 t222 _ A5.out).mono ?_
       rintro e w39 ⟨rfl, hb⟩
       refine ⟨_, rfl, ?_⟩
       have n0_ := Aside0.mk (zl (by repeat (first | (with_reducible first | exact HB.out | apply ze | apply zc | apply zd) | exact HB.out)) hb)
       clear HB
       have HB := n0_
       clear n0_
       (try clear hb)
       (try clear hb2)
       (try clear hk)
       (try clear hi)
       refine hK.out _ _ ⟨(zb HB.out hw221_0), (zb HB.out hw221_1), (zb HB.out hw221_2), (zb HB.out hw221_3), (zb HB.out hw221_4), (zb HB.out hw221_5), (zb HB.out hw221_6)⟩ (fun hHeld => ?_)
       clear hK K
       refine norm_ (a' := ?_) ?_ ?_
       rotate_left
       ·show Act.put _ (some 18) _ = _
        simp only [Act.put, List.setIfInBounds_toArray, List.set_cons_zero, List.set_cons_succ, zo, zp]
        rfl
       refine zr (i := 7) (N := some 19) (v := ?_) (a' := ?_) #[true, true, true, true, true, true, true, true] rfl rfl (zn HT_.out (by kernel_rfl)) (fun _ _ _ h => h) (Or.inl ⟨by rfl, ?_⟩) ?_ ?_
       rotate_left
       ·intro w'
        go_simp
        with_reducible rfl
       rotate_left
       ·simp only [Act.put, List.setIfInBounds_toArray, List.set_cons_zero, List.set_cons_succ, zo, zp]
        rfl
       refine done_ (done_of HT_.out (by kernel_rfl)) ?_
       try go_wp2
       have n0_ := Aside0.mk (zd HB.out)
       clear HB
       have HB := n0_
       clear n0_
       have p223 : 0 ≤ (x5_1 : Int) := of_decide_eq_true (by first | (with_reducible assumption) | assumption)
       have q223 : x5_1 < (l0.length : Int) := of_decide_eq_true (by first | (with_reducible assumption) | assumption)
       obtain ⟨ad223, e223, hx223_0, hx223_1, hx223_2, hx223_3, hx223_4, hx223_5, hx223_6⟩ := at_T92 HR0.out x5_1 p223 q223
       have hw223_6 := hx223_6
       have hw223_5 := hx223_5
       have hw223_4 := hx223_4
       have hw223_3 := hx223_3
       have hw223_2 := hx223_2
       have hw223_1 := hx223_1
       have hw223_0 := hx223_0
       obtain rfl : ad221 = ad223 := (by injection e223)
       replace hx223_0 := zb HB.out hx223_0
       replace hx223_1 := zb HB.out hx223_1
       replace hx223_2 := zb HB.out hx223_2
       replace hx223_3 := zb HB.out hx223_3
       replace hx223_4 := zb HB.out hx223_4
       replace hx223_5 := zb HB.out hx223_5
       replace hx223_6 := zb HB.out hx223_6
       replace p223 := eq_true p223
       replace q223 := eq_true q223
       refine start_ (n := 8) (S := fun w' => w'.cell? (ad221.add ((x5_1).toNat * 7)) = some (.string ((rd_T92 l0 x5_1).f0)) ∧ w'.cell? ⟨(ad221.add ((x5_1).toNat * 7)).block, (ad221.add ((x5_1).toNat * 7)).off + 1, none⟩ = some (.string ((rd_T92 l0 x5_1).f1)) ∧ w'.cell? ⟨(ad221.add ((x5_1).toNat * 7)).block, (ad221.add ((x5_1).toNat * 7)).off + 2, none⟩ = some (.int .i64 ((rd_T92 l0 x5_1).f2)) ∧ w'.cell? ⟨(ad221.add ((x5_1).toNat * 7)).block, (ad221.add ((x5_1).toNat * 7)).off + 3, none⟩ = some (.int .i64 ((rd_T92 l0 x5_1).f3)) ∧ w'.cell? ⟨(ad221.add ((x5_1).toNat * 7)).block, (ad221.add ((x5_1).toNat * 7)).off + 4, none⟩ = some (.int .i64 ((rd_T92 l0 x5_1).f4)) ∧ w'.cell? ⟨(ad221.add ((x5_1).toNat * 7)).block, (ad221.add ((x5_1).toNat * 7)).off + 5, none⟩ = some (.int .i64 ((rd_T92 l0 x5_1).f5)) ∧ w'.cell? ⟨(ad221.add ((x5_1).toNat * 7)).block, (ad221.add ((x5_1).toNat * 7)).off + 6, none⟩ = some (.int .i64 ((rd_T92 l0 x5_1).f6))) (ds := []) #[false, false, false, false, false, false, false, false] (by kernel_rfl) rfl rfl ⟨(zb HB.out hw223_0), (zb HB.out hw223_1), (zb HB.out hw223_2), (zb HB.out hw223_3), (zb HB.out hw223_4), (zb HB.out hw223_5), (zb HB.out hw223_6)⟩ (fun hHeld => ?_); refine with_tabW laws_heldNodeS.tab7 laws_heldNodeS.bits7 (fun HT_ HW_ => ?_)
       generalize w39.drew = w40 at HB hx223_0 hx223_1 hx223_2 hx223_3 hx223_4 hx223_5 hx223_6 hHeld ⊢
       refine zr (i := 0) (N := some 22) (v := ?_) (a' := ?_) #[true, false, false, false, false, false, false, false] rfl rfl (zn HT_.out (by kernel_rfl)) (fun _ _ _ h => h) (Or.inl ⟨by rfl, ?_⟩) ?_ ?_
       rotate_left
       ·intro w'
        go_simp
        with_reducible rfl
       rotate_left
       ·simp only [Act.put, List.setIfInBounds_toArray, List.set_cons_zero, List.set_cons_succ, zo, zp]
        rfl
       refine zr (i := 1) (N := some 23) (v := ?_) (a' := ?_) #[true, true, false, false, false, false, false, false] rfl rfl (zn HT_.out (by kernel_rfl)) (fun _ _ _ h => h) (Or.inl ⟨by rfl, ?_⟩) ?_ ?_
       rotate_left
       ·intro w'
        go_simp
        with_reducible rfl
       rotate_left
       ·simp only [Act.put, List.setIfInBounds_toArray, List.set_cons_zero, List.set_cons_succ, zo, zp]
        rfl
       refine zr (i := 2) (N := some 24) (v := ?_) (a' := ?_) #[true, true, true, false, false, false, false, false] rfl rfl (zn HT_.out (by kernel_rfl)) (fun _ _ _ h => h) (Or.inl ⟨by rfl, ?_⟩) ?_ ?_
       rotate_left
       ·intro w'
        go_simp
        with_reducible rfl
       rotate_left
       ·simp only [Act.put, List.setIfInBounds_toArray, List.set_cons_zero, List.set_cons_succ, zo, zp]
        rfl
       refine zr (i := 3) (N := some 25) (v := ?_) (a' := ?_) #[true, true, true, true, false, false, false, false] rfl rfl (zn HT_.out (by kernel_rfl)) (fun _ _ _ h => h) (Or.inl ⟨by rfl, ?_⟩) ?_ ?_
       rotate_left
       ·intro w'
        go_simp
        with_reducible rfl
       rotate_left
       ·simp only [Act.put, List.setIfInBounds_toArray, List.set_cons_zero, List.set_cons_succ, zo, zp]
        rfl
       refine zr (i := 5) (N := some 27) (v := ?_) (a' := ?_) #[true, true, true, true, false, true, false, false] rfl rfl (zn HT_.out (by kernel_rfl)) (fun _ _ _ h => h) (Or.inl ⟨by rfl, ?_⟩) ?_ ?_
       rotate_left
       ·intro w'
        go_simp
        with_reducible rfl
       rotate_left
       ·simp only [Act.put, List.setIfInBounds_toArray, List.set_cons_zero, List.set_cons_succ, zo, zp]
        rfl
       refine take_ (i := 4) (N := some 26) (v := ?_) (a' := ?_) #[true, true, true, true, true, true, false, false] rfl rfl (zA HT_.out HW_.out (by kernel_rfl)) (fun _ _ _ h => h) (Or.inl ⟨by rfl, ?_⟩) hHeld ?_ ?_
       rotate_left
       ·rintro w' ⟨s0, s1, s2, s3, s4, s5, s6⟩
        go_simp
        with_reducible rfl
       rotate_left
       ·simp only [Act.put, List.setIfInBounds_toArray, List.set_cons_zero, List.set_cons_succ, zo, zp]
        rfl
       refine one_ (i := 6) (N := some 28) #[true, true, true, true, true, true, true, false] rfl rfl (one_of HT_.out (by kernel_rfl)) (by decide) (fun K hK => ?_)
       refine goes_ Tryd.func101 (by kernel_rfl) rfl #[.int .i64 (wrap64 (x1_1 + 1))] (by rfl) rfl rfl (by (try simp only [List.map_toArray, List.map_cons, List.map_nil]); first | done | rfl | (simp only [List.length_drop, List.length_take]; rfl)) ?_
       with_reducible refine (laws_markText.calls k1 (wrap64 (x1_1 + 1)) t224 _ A7.out).mono ?_
       rintro e w41 ⟨rfl, hb⟩
       refine ⟨_, rfl, ?_⟩
       have n0_ := Aside0.mk (zl (by repeat (first | (with_reducible first | exact HB.out | apply ze | apply zc | apply zd) | exact HB.out)) hb)
       clear HB
       have HB := n0_
       clear n0_
       (try clear hb)
       (try clear hb2)
       (try clear hk)
       (try clear hi)
       refine hK.out _ _ ⟨(zb HB.out hw223_0), (zb HB.out hw223_1), (zb HB.out hw223_2), (zb HB.out hw223_3), (zb HB.out hw223_4), (zb HB.out hw223_5), (zb HB.out hw223_6)⟩ (fun hHeld => ?_)
       clear hK K
       refine norm_ (a' := ?_) ?_ ?_
       rotate_left
       ·show Act.put _ (some 28) _ = _
        simp only [Act.put, List.setIfInBounds_toArray, List.set_cons_zero, List.set_cons_succ, zo, zp]
        rfl
       refine zr (i := 7) (N := some 29) (v := ?_) (a' := ?_) #[true, true, true, true, true, true, true, true] rfl rfl (zn HT_.out (by kernel_rfl)) (fun _ _ _ h => h) (Or.inl ⟨by rfl, ?_⟩) ?_ ?_
       rotate_left
       ·intro w'
        go_simp
        with_reducible rfl
       rotate_left
       ·simp only [Act.put, List.setIfInBounds_toArray, List.set_cons_zero, List.set_cons_succ, zo, zp]
        rfl
       refine done_ (done_of HT_.out (by kernel_rfl)) ?_
       try go_wp2
       go_ret
       exact ⟨by first | rfl | (simp [errW_none, errW_some] <;> rfl) | (simp [*, errW_none, errW_some] <;> rfl), by repeat (first | (with_reducible first | exact HB.out | apply ze | apply zc | apply zd) | exact HB.out)⟩
     ·rw [if_neg c6] at H
      have c6b0 : (((rd_T92 l0 x5_1).f0).toList == t222.toList) = false := beq_eq_false_iff_ne.mpr c6
      have c6b1 : (((rd_T92 l0 x5_1).f0).toList != t222.toList) = true := bne_iff_ne.mpr c6
      obtain rfl := Option.some.inj H
      try go_wp2
      have n0_ := Aside0.mk (zd HB.out)
      clear HB
      have HB := n0_
      clear n0_
      have p221 : 0 ≤ (x5_1 : Int) := of_decide_eq_true (by first | (with_reducible assumption) | assumption)
      have q221 : x5_1 < (l0.length : Int) := of_decide_eq_true (by first | (with_reducible assumption) | assumption)
      obtain ⟨ad221, e221, hx221_0, hx221_1, hx221_2, hx221_3, hx221_4, hx221_5, hx221_6⟩ := at_T92 HR0.out x5_1 p221 q221
      have hw221_6 := hx221_6
      have hw221_5 := hx221_5
      have hw221_4 := hx221_4
      have hw221_3 := hx221_3
      have hw221_2 := hx221_2
      have hw221_1 := hx221_1
      have hw221_0 := hx221_0
      cases e221
      replace hx221_0 := zb HB.out hx221_0
      replace hx221_1 := zb HB.out hx221_1
      replace hx221_2 := zb HB.out hx221_2
      replace hx221_3 := zb HB.out hx221_3
      replace hx221_4 := zb HB.out hx221_4
      replace hx221_5 := zb HB.out hx221_5
      replace hx221_6 := zb HB.out hx221_6
      replace p221 := eq_true p221
      replace q221 := eq_true q221
      refine start_ (n := 8) (S := fun w' => w'.cell? (ad221.add ((x5_1).toNat * 7)) = some (.string ((rd_T92 l0 x5_1).f0)) ∧ w'.cell? ⟨(ad221.add ((x5_1).toNat * 7)).block, (ad221.add ((x5_1).toNat * 7)).off + 1, none⟩ = some (.string ((rd_T92 l0 x5_1).f1)) ∧ w'.cell? ⟨(ad221.add ((x5_1).toNat * 7)).block, (ad221.add ((x5_1).toNat * 7)).off + 2, none⟩ = some (.int .i64 ((rd_T92 l0 x5_1).f2)) ∧ w'.cell? ⟨(ad221.add ((x5_1).toNat * 7)).block, (ad221.add ((x5_1).toNat * 7)).off + 3, none⟩ = some (.int .i64 ((rd_T92 l0 x5_1).f3)) ∧ w'.cell? ⟨(ad221.add ((x5_1).toNat * 7)).block, (ad221.add ((x5_1).toNat * 7)).off + 4, none⟩ = some (.int .i64 ((rd_T92 l0 x5_1).f4)) ∧ w'.cell? ⟨(ad221.add ((x5_1).toNat * 7)).block, (ad221.add ((x5_1).toNat * 7)).off + 5, none⟩ = some (.int .i64 ((rd_T92 l0 x5_1).f5)) ∧ w'.cell? ⟨(ad221.add ((x5_1).toNat * 7)).block, (ad221.add ((x5_1).toNat * 7)).off + 6, none⟩ = some (.int .i64 ((rd_T92 l0 x5_1).f6))) (ds := []) #[false, false, false, false, false, false, false, false] (by kernel_rfl) rfl rfl ⟨(zb HB.out hw221_0), (zb HB.out hw221_1), (zb HB.out hw221_2), (zb HB.out hw221_3), (zb HB.out hw221_4), (zb HB.out hw221_5), (zb HB.out hw221_6)⟩ (fun hHeld => ?_); refine with_tabW laws_heldNodeS.tab4 laws_heldNodeS.bits4 (fun HT_ HW_ => ?_)
      generalize wr.drew = w42 at HB hx221_0 hx221_1 hx221_2 hx221_3 hx221_4 hx221_5 hx221_6 hHeld ⊢
      refine zr (i := 0) (N := some 12) (v := ?_) (a' := ?_) #[true, false, false, false, false, false, false, false] rfl rfl (zn HT_.out (by kernel_rfl)) (fun _ _ _ h => h) (Or.inl ⟨by rfl, ?_⟩) ?_ ?_
      rotate_left
      ·intro w'
       go_simp
       with_reducible rfl
      rotate_left
      ·simp only [Act.put, List.setIfInBounds_toArray, List.set_cons_zero, List.set_cons_succ, zo, zp]
       rfl
      refine zr (i := 1) (N := some 13) (v := ?_) (a' := ?_) #[true, true, false, false, false, false, false, false] rfl rfl (zn HT_.out (by kernel_rfl)) (fun _ _ _ h => h) (Or.inl ⟨by rfl, ?_⟩) ?_ ?_
      rotate_left
      ·intro w'
       go_simp
       with_reducible rfl
      rotate_left
      ·simp only [Act.put, List.setIfInBounds_toArray, List.set_cons_zero, List.set_cons_succ, zo, zp]
       rfl
      refine zr (i := 2) (N := some 14) (v := ?_) (a' := ?_) #[true, true, true, false, false, false, false, false] rfl rfl (zn HT_.out (by kernel_rfl)) (fun _ _ _ h => h) (Or.inl ⟨by rfl, ?_⟩) ?_ ?_
      rotate_left
      ·intro w'
       go_simp
       with_reducible rfl
      rotate_left
      ·simp only [Act.put, List.setIfInBounds_toArray, List.set_cons_zero, List.set_cons_succ, zo, zp]
       rfl
      refine zr (i := 3) (N := some 15) (v := ?_) (a' := ?_) #[true, true, true, true, false, false, false, false] rfl rfl (zn HT_.out (by kernel_rfl)) (fun _ _ _ h => h) (Or.inl ⟨by rfl, ?_⟩) ?_ ?_
      rotate_left
      ·intro w'
       go_simp
       with_reducible rfl
      rotate_left
      ·simp only [Act.put, List.setIfInBounds_toArray, List.set_cons_zero, List.set_cons_succ, zo, zp]
       rfl
      refine zr (i := 5) (N := some 17) (v := ?_) (a' := ?_) #[true, true, true, true, false, true, false, false] rfl rfl (zn HT_.out (by kernel_rfl)) (fun _ _ _ h => h) (Or.inl ⟨by rfl, ?_⟩) ?_ ?_
      rotate_left
      ·intro w'
       go_simp
       with_reducible rfl
      rotate_left
      ·simp only [Act.put, List.setIfInBounds_toArray, List.set_cons_zero, List.set_cons_succ, zo, zp]
       rfl
      refine take_ (i := 4) (N := some 16) (v := ?_) (a' := ?_) #[true, true, true, true, true, true, false, false] rfl rfl (zA HT_.out HW_.out (by kernel_rfl)) (fun _ _ _ h => h) (Or.inl ⟨by rfl, ?_⟩) hHeld ?_ ?_
      rotate_left
      ·rintro w' ⟨s0, s1, s2, s3, s4, s5, s6⟩
       go_simp
       with_reducible rfl
      rotate_left
      ·simp only [Act.put, List.setIfInBounds_toArray, List.set_cons_zero, List.set_cons_succ, zo, zp]
       rfl
      refine one_ (i := 6) (N := some 18) #[true, true, true, true, true, true, true, false] rfl rfl (one_of HT_.out (by kernel_rfl)) (by decide) (fun K hK => ?_)
      refine goes_ Tryd.func101 (by kernel_rfl) rfl #[.int .i64 x1_1] (by rfl) rfl rfl (by (try simp only [List.map_toArray, List.map_cons, List.map_nil]); first | done | rfl | (simp only [List.length_drop, List.length_take]; rfl)) ?_
      with_reducible refine (laws_markText.calls k1 x1_1 t222 _ A5.out).mono ?_
      rintro e w43 ⟨rfl, hb⟩
      refine ⟨_, rfl, ?_⟩
      have n0_ := Aside0.mk (zl (by repeat (first | (with_reducible first | exact HB.out | apply ze | apply zc | apply zd) | exact HB.out)) hb)
      clear HB
      have HB := n0_
      clear n0_
      (try clear hb)
      (try clear hb2)
      (try clear hk)
      (try clear hi)
      refine hK.out _ _ ⟨(zb HB.out hw221_0), (zb HB.out hw221_1), (zb HB.out hw221_2), (zb HB.out hw221_3), (zb HB.out hw221_4), (zb HB.out hw221_5), (zb HB.out hw221_6)⟩ (fun hHeld => ?_)
      clear hK K
      refine norm_ (a' := ?_) ?_ ?_
      rotate_left
      ·show Act.put _ (some 18) _ = _
       simp only [Act.put, List.setIfInBounds_toArray, List.set_cons_zero, List.set_cons_succ, zo, zp]
       rfl
      refine zr (i := 7) (N := some 19) (v := ?_) (a' := ?_) #[true, true, true, true, true, true, true, true] rfl rfl (zn HT_.out (by kernel_rfl)) (fun _ _ _ h => h) (Or.inl ⟨by rfl, ?_⟩) ?_ ?_
      rotate_left
      ·intro w'
       go_simp
       with_reducible rfl
      rotate_left
      ·simp only [Act.put, List.setIfInBounds_toArray, List.set_cons_zero, List.set_cons_succ, zo, zp]
       rfl
      refine done_ (done_of HT_.out (by kernel_rfl)) ?_
      try go_wp2
      go_ret
      exact ⟨by first | rfl | (simp [errW_none, errW_some] <;> rfl) | (simp [*, errW_none, errW_some] <;> rfl), by repeat (first | (with_reducible first | exact HB.out | apply ze | apply zc | apply zd) | exact HB.out)⟩
    ·rw [if_neg c4] at H
     exact absurd H (by simp)
   ·rw [if_neg c3] at H
    have c3b0 : decide (x5_1 < (l0.length : Int)) = false := decide_eq_false c3
    clear c3
    obtain rfl := Option.some.inj H
    go_wp2
    go_ret
    exact ⟨by first | rfl | (simp [errW_none, errW_some] <;> rfl) | (simp [*, errW_none, errW_some] <;> rfl), by repeat (first | (with_reducible first | exact HB.out | apply ze | apply zc | apply zd) | exact HB.out)⟩

end Go.Proofs.YtjoafknckmoojaaDoor.GFnExactDecodeTree
