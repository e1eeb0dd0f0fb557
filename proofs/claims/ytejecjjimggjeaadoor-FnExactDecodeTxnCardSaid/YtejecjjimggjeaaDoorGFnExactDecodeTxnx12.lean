/- Written by give.py, a program of this session, that runs the kit's print and lays contracts proved by hand beside it. -/
import Derived.Test.YtejecjjimggjeaaDoorGFnExactDecodeTxnx0
import Derived.Test.YtejecjjimggjeaaDoorGFnExactDecodeTxnx11
namespace Go.Proofs.YtejecjjimggjeaaDoor.GFnExactDecodeTxn
open Go.RowKit Go.Proofs.YtejecjjimggjeaaDoorW.PrintWords Go.Proofs.YtejecjjimggjeaaDoorW.PrintLast Go.Proofs.YtejecjjimggjeaaDoorW.PrintMore
attribute [local go_sem] max2_int min2_int max_two min_two max_three min_three max_four min_four
attribute [local go_sem high] Go.Proofs.YtejecjjimggjeaaDoorH.str_leq Go.Proofs.YtejecjjimggjeaaDoorH.str_geq Go.Proofs.YtejecjjimggjeaaDoorH.str_gtr   -- for this text's walks alone
set_option linter.unusedVariables false
set_option linter.unusedSimpArgs false

def laws_heldEffectS.l0 : Nat → List (S55) → Int → Int → Option (Int)
 | 0, _, _, _ => none
 | k + 1, x0, x1, x5 => if x5 < (x0.length : Int) then (if 0 ≤ x5 then (if (((rd_T55 x0 x5).f0) != ((Int.tmod x1 3) == 0)) = true then (some (-1)) else ((laws_markText.f k (wrap64 (x1 + 1))).bind fun t236 => (if ((rd_T55 x0 x5).f1.f0).toList = t236.toList then ((laws_markText.f k (wrap64 ((wrap64 (x1 + 1)) + 1))).bind fun t238 => (if ((rd_T55 x0 x5).f1.f1).toList = t238.toList then (if ((rd_T55 x0 x5).f1.f2) = (wrap64 ((wrap64 ((wrap64 (x1 + 1)) + 1)) + 1)) then (if ((rd_T55 x0 x5).f1.f3) = (wrap64 ((wrap64 ((wrap64 ((wrap64 (x1 + 1)) + 1)) + 1)) + 1)) then (if ((rd_T55 x0 x5).f1.f4) = (wrap64 ((wrap64 ((wrap64 ((wrap64 ((wrap64 (x1 + 1)) + 1)) + 1)) + 1)) + 1)) then (if ((rd_T55 x0 x5).f1.f5) = (wrap64 ((wrap64 ((wrap64 ((wrap64 ((wrap64 ((wrap64 (x1 + 1)) + 1)) + 1)) + 1)) + 1)) + 1)) then (if ((rd_T55 x0 x5).f1.f6) = (wrap64 ((wrap64 ((wrap64 ((wrap64 ((wrap64 ((wrap64 ((wrap64 (x1 + 1)) + 1)) + 1)) + 1)) + 1)) + 1)) + 1)) then (laws_heldEffectS.l0 k x0 (wrap64 ((wrap64 ((wrap64 ((wrap64 ((wrap64 ((wrap64 ((wrap64 ((wrap64 (x1 + 1)) + 1)) + 1)) + 1)) + 1)) + 1)) + 1)) + 1)) (wrap64 (x5 + 1))) else (some (-1))) else (some (-1))) else (some (-1))) else (some (-1))) else (some (-1))) else (some (-1)))) else (some (-1))))) else (none)) else (some x1)
def laws_heldEffectS.f (k : Nat) (l0 : List (S55)) (a1 : Int) : Option (Int) := laws_heldEffectS.l0 k l0 a1 0
theorem laws_heldEffectS.mono_l : ∀ k, (∀ y0 y1 y2, LeO (laws_heldEffectS.l0 k y0 y1 y2) (laws_heldEffectS.l0 (k + 1) y0 y1 y2))
 | 0 => fun _ _ _ r h => by simp [laws_heldEffectS.l0] at h
 | k + 1 => by
  have ih0 := laws_heldEffectS.mono_l k
  ·intro y0 y1 y2
   unfold laws_heldEffectS.l0
   repeat' first
   | (with_reducible exact ih0 _ _ _)
   | (with_reducible exact laws_markText.mono _ _)
   | (with_reducible exact LeO.refl _)
   | (with_reducible exact LeO.none _)
   | (with_reducible refine LeO.ite ?_ ?_)
   | (with_reducible refine LeO.bind ?_ (fun _ => ?_))
   | exact ih0 _ _ _
   | exact laws_markText.mono _ _
   | exact LeO.none _
   | refine LeO.ite ?_ ?_
   | refine LeO.bind ?_ (fun _ => ?_)
theorem laws_heldEffectS.mono : ∀ a0 a1 k, LeO (laws_heldEffectS.f k a0 a1) (laws_heldEffectS.f (k + 1) a0 a1) := by
 intro a0 a1 k
 have ih0 := laws_heldEffectS.mono_l k
 unfold laws_heldEffectS.f
 repeat' first
   | (with_reducible exact ih0 _ _ _)
   | (with_reducible exact laws_markText.mono _ _)
   | (with_reducible exact LeO.refl _)
   | (with_reducible exact LeO.none _)
   | (with_reducible refine LeO.ite ?_ ?_)
   | (with_reducible refine LeO.bind ?_ (fun _ => ?_))
   | exact ih0 _ _ _
   | exact laws_markText.mono _ _
   | exact LeO.none _
   | refine LeO.ite ?_ ?_
   | refine LeO.bind ?_ (fun _ => ?_)
def laws_heldEffectS.T7 : Bool × List (List Nat × List Nat) := (true, [([], []), ([], []), ([0, 1], [0, 1]), ([2], [2]), ([3], [3]), ([4], [4]), ([], []), ([6], [6]), ([5, 7], [5, 7])])
def laws_heldEffectS.B7 : List Nat := [0, 0, 3, 7, 15, 31, 0, 64, 255]
theorem laws_heldEffectS.tab7 : rtab .any (opsOf Tryd.f59 7) = laws_heldEffectS.T7 := by kernel_rfl
theorem laws_heldEffectS.bits7 : waitsOk laws_heldEffectS.T7.2 laws_heldEffectS.B7 = true := by kernel_rfl
def laws_heldEffectS.T10 : Bool × List (List Nat × List Nat) := (true, [([], []), ([], []), ([0, 1], [0, 1]), ([2], [2]), ([3], [3]), ([4], [4]), ([], []), ([6], [6]), ([5, 7], [5, 7])])
def laws_heldEffectS.B10 : List Nat := [0, 0, 3, 7, 15, 31, 0, 64, 255]
theorem laws_heldEffectS.tab10 : rtab .any (opsOf Tryd.f59 10) = laws_heldEffectS.T10 := by kernel_rfl
theorem laws_heldEffectS.bits10 : waitsOk laws_heldEffectS.T10.2 laws_heldEffectS.B10 = true := by kernel_rfl
set_option maxHeartbeats 8000000 in
set_option maxRecDepth 100000 in
theorem laws_heldEffectS.calls (k : Nat) (A0 : Option Addr) (c0 : Nat) (l0 : List (S55)) (a1 : Int) (r : Int) (w : World) (hr0 : Kd.C k55 w A0 l0.length l0) (hc0 : l0.length ≤ c0) (h : laws_heldEffectS.f k l0 a1 = some r) :
  Calls Tryd.prog 59 #[.slice A0 l0.length c0, .int .i64 a1] w fun e w' => e = .returned (.int .i64 r) ∧ Below w.heap.size w w' := by
 have HR0 := Aside0.mk hr0
 have HC0 := Aside0.mk hc0
 clear hr0 hc0
 have HB := Aside0.mk (Below.refl w.heap.size w)
 have H : (laws_heldEffectS.l0 k l0 a1 0) = some r := h
 clear h
 have H' := Aside0.mk H
 clear H
 go_enter Tryd.func59, Tryd.ntmps59
 go_wp2
 go_loopg [1, 5] k (fun kq v1 v5 w' => ∃ (x1_1 : Int) (x5_1 : Int), v1 = .int .i64 x1_1 ∧ v5 = .int .i64 x5_1 ∧ Aside0 (laws_heldEffectS.l0 kq l0 x1_1 x5_1 = some r) ∧ Aside0 (kq ≤ k) ∧ Aside0 (Below w.heap.size w w'))
 case atStart => exact ⟨(a1), (0), (by first | rfl | (simp; done) | (simp [*]; done)), (by first | rfl | (simp; done) | (simp [*]; done)), H', ⟨Nat.le_refl _⟩, ⟨by repeat (first | (with_reducible first | exact HB.out | apply zf | apply zc | apply ze) | exact HB.out)⟩⟩
 case round =>
  clear H'
  try clear p2
  obtain ⟨x1_1, x5_1, rfl, rfl, HA, HK1, HB⟩ := hrel
  cases gk with
  | zero => exact absurd HA.out (by simp [laws_heldEffectS.l0])
  | succ k1 =>
   have H := HA.out
   clear HA
   simp only [laws_heldEffectS.l0] at H
   by_cases c3 : x5_1 < (l0.length : Int)
   ·rw [if_pos c3] at H
    have c3b0 : decide (x5_1 < (l0.length : Int)) = true := decide_eq_true c3
    clear c3
    by_cases c4 : 0 ≤ x5_1
    ·rw [if_pos c4] at H
     have c4b0 : decide (0 ≤ x5_1) = true := decide_eq_true c4
     clear c4
     by_cases c5 : (((rd_T55 l0 x5_1).f0) != ((Int.tmod x1_1 3) == 0)) = true
     ·rw [if_pos c5] at H
      have c5b0 : (((rd_T55 l0 x5_1).f0) != ((Int.tmod x1_1 3) == 0)) = true := c5
      (try (have c5b1 : decide (((rd_T55 l0 x5_1).f0) = ((Int.tmod x1_1 3) == 0)) = false := by simpa using c5))
      (try (have c5b2 : (((rd_T55 l0 x5_1).f0) == ((Int.tmod x1_1 3) == 0)) = false := by simpa using c5))
      (try (have c5b3 : ¬ (((rd_T55 l0 x5_1).f0) = ((Int.tmod x1_1 3) == 0)) := by simpa using c5))
      clear c5
      obtain rfl := Option.some.inj H
      have p234 : 0 ≤ (x5_1 : Int) := of_decide_eq_true (by first | (with_reducible assumption) | assumption)
      have q234 : x5_1 < (l0.length : Int) := of_decide_eq_true (by first | (with_reducible assumption) | assumption)
      obtain ⟨ad234, e234, hx234_0, hx234_1, hx234_2, hx234_3, hx234_4, hx234_5, hx234_6, hx234_7⟩ := at_T55 HR0.out x5_1 p234 q234
      cases e234
      replace hx234_0 := zb HB.out hx234_0
      replace hx234_1 := zb HB.out hx234_1
      replace hx234_2 := zb HB.out hx234_2
      replace hx234_3 := zb HB.out hx234_3
      replace hx234_4 := zb HB.out hx234_4
      replace hx234_5 := zb HB.out hx234_5
      replace hx234_6 := zb HB.out hx234_6
      replace hx234_7 := zb HB.out hx234_7
      replace p234 := eq_true p234
      replace q234 := eq_true q234
      go_wp2
      go_ret
      exact ⟨by first | rfl | (simp [errW_none, errW_some] <;> rfl) | (simp [*, errW_none, errW_some] <;> rfl), by repeat (first | (with_reducible first | exact HB.out | apply zf | apply zc | apply ze) | exact HB.out)⟩
     ·rw [if_neg c5] at H
      have c5b0 : (((rd_T55 l0 x5_1).f0) != ((Int.tmod x1_1 3) == 0)) = false := by simpa using c5
      (try (have c5b1 : decide (((rd_T55 l0 x5_1).f0) = ((Int.tmod x1_1 3) == 0)) = true := by simpa using c5))
      (try (have c5b2 : (((rd_T55 l0 x5_1).f0) == ((Int.tmod x1_1 3) == 0)) = true := by simpa using c5))
      clear c5
      replace H := Option.bind_eq_some_iff.mp H
      obtain ⟨t236, A60, H⟩ := H
      replace H : (if ((rd_T55 l0 x5_1).f1.f0).toList = t236.toList then ((laws_markText.f k1 (wrap64 ((wrap64 (x1_1 + 1)) + 1))).bind fun t238 => (if ((rd_T55 l0 x5_1).f1.f1).toList = t238.toList then (if ((rd_T55 l0 x5_1).f1.f2) = (wrap64 ((wrap64 ((wrap64 (x1_1 + 1)) + 1)) + 1)) then (if ((rd_T55 l0 x5_1).f1.f3) = (wrap64 ((wrap64 ((wrap64 ((wrap64 (x1_1 + 1)) + 1)) + 1)) + 1)) then (if ((rd_T55 l0 x5_1).f1.f4) = (wrap64 ((wrap64 ((wrap64 ((wrap64 ((wrap64 (x1_1 + 1)) + 1)) + 1)) + 1)) + 1)) then (if ((rd_T55 l0 x5_1).f1.f5) = (wrap64 ((wrap64 ((wrap64 ((wrap64 ((wrap64 ((wrap64 (x1_1 + 1)) + 1)) + 1)) + 1)) + 1)) + 1)) then (if ((rd_T55 l0 x5_1).f1.f6) = (wrap64 ((wrap64 ((wrap64 ((wrap64 ((wrap64 ((wrap64 ((wrap64 (x1_1 + 1)) + 1)) + 1)) + 1)) + 1)) + 1)) + 1)) then (laws_heldEffectS.l0 k1 l0 (wrap64 ((wrap64 ((wrap64 ((wrap64 ((wrap64 ((wrap64 ((wrap64 ((wrap64 (x1_1 + 1)) + 1)) + 1)) + 1)) + 1)) + 1)) + 1)) + 1)) (wrap64 (x5_1 + 1))) else (some (-1))) else (some (-1))) else (some (-1))) else (some (-1))) else (some (-1))) else (some (-1)))) else (some (-1))) = some r := H
      have A6 := Aside0.mk A60
      clear A60
      by_cases c7 : ((rd_T55 l0 x5_1).f1.f0).toList = t236.toList
      ·rw [if_pos c7] at H
       have c7b0 : (((rd_T55 l0 x5_1).f1.f0).toList == t236.toList) = true := beq_iff_eq.mpr c7
       have c7b1 : (((rd_T55 l0 x5_1).f1.f0).toList != t236.toList) = false := bne_eq_false_iff_eq.mpr c7
       clear c7
       replace H := Option.bind_eq_some_iff.mp H
       obtain ⟨t238, A80, H⟩ := H
       replace H : (if ((rd_T55 l0 x5_1).f1.f1).toList = t238.toList then (if ((rd_T55 l0 x5_1).f1.f2) = (wrap64 ((wrap64 ((wrap64 (x1_1 + 1)) + 1)) + 1)) then (if ((rd_T55 l0 x5_1).f1.f3) = (wrap64 ((wrap64 ((wrap64 ((wrap64 (x1_1 + 1)) + 1)) + 1)) + 1)) then (if ((rd_T55 l0 x5_1).f1.f4) = (wrap64 ((wrap64 ((wrap64 ((wrap64 ((wrap64 (x1_1 + 1)) + 1)) + 1)) + 1)) + 1)) then (if ((rd_T55 l0 x5_1).f1.f5) = (wrap64 ((wrap64 ((wrap64 ((wrap64 ((wrap64 ((wrap64 (x1_1 + 1)) + 1)) + 1)) + 1)) + 1)) + 1)) then (if ((rd_T55 l0 x5_1).f1.f6) = (wrap64 ((wrap64 ((wrap64 ((wrap64 ((wrap64 ((wrap64 ((wrap64 (x1_1 + 1)) + 1)) + 1)) + 1)) + 1)) + 1)) + 1)) then (laws_heldEffectS.l0 k1 l0 (wrap64 ((wrap64 ((wrap64 ((wrap64 ((wrap64 ((wrap64 ((wrap64 ((wrap64 (x1_1 + 1)) + 1)) + 1)) + 1)) + 1)) + 1)) + 1)) + 1)) (wrap64 (x5_1 + 1))) else (some (-1))) else (some (-1))) else (some (-1))) else (some (-1))) else (some (-1))) else (some (-1))) = some r := H
       have A8 := Aside0.mk A80
       clear A80
       by_cases c9 : ((rd_T55 l0 x5_1).f1.f1).toList = t238.toList
       ·rw [if_pos c9] at H
        have c9b0 : (((rd_T55 l0 x5_1).f1.f1).toList == t238.toList) = true := beq_iff_eq.mpr c9
        have c9b1 : (((rd_T55 l0 x5_1).f1.f1).toList != t238.toList) = false := bne_eq_false_iff_eq.mpr c9
        clear c9
        by_cases c10 : ((rd_T55 l0 x5_1).f1.f2) = (wrap64 ((wrap64 ((wrap64 (x1_1 + 1)) + 1)) + 1))
        ·rw [if_pos c10] at H
         have c10b0 : (((rd_T55 l0 x5_1).f1.f2) == (wrap64 ((wrap64 ((wrap64 (x1_1 + 1)) + 1)) + 1))) = true := beq_iff_eq.mpr c10
         have c10b1 : (((rd_T55 l0 x5_1).f1.f2) != (wrap64 ((wrap64 ((wrap64 (x1_1 + 1)) + 1)) + 1))) = false := bne_eq_false_iff_eq.mpr c10
         clear c10
         by_cases c11 : ((rd_T55 l0 x5_1).f1.f3) = (wrap64 ((wrap64 ((wrap64 ((wrap64 (x1_1 + 1)) + 1)) + 1)) + 1))
         ·rw [if_pos c11] at H
          have c11b0 : (((rd_T55 l0 x5_1).f1.f3) == (wrap64 ((wrap64 ((wrap64 ((wrap64 (x1_1 + 1)) + 1)) + 1)) + 1))) = true := beq_iff_eq.mpr c11
          have c11b1 : (((rd_T55 l0 x5_1).f1.f3) != (wrap64 ((wrap64 ((wrap64 ((wrap64 (x1_1 + 1)) + 1)) + 1)) + 1))) = false := bne_eq_false_iff_eq.mpr c11
          clear c11
          by_cases c12 : ((rd_T55 l0 x5_1).f1.f4) = (wrap64 ((wrap64 ((wrap64 ((wrap64 ((wrap64 (x1_1 + 1)) + 1)) + 1)) + 1)) + 1))
          ·rw [if_pos c12] at H
           have c12b0 : (((rd_T55 l0 x5_1).f1.f4) == (wrap64 ((wrap64 ((wrap64 ((wrap64 ((wrap64 (x1_1 + 1)) + 1)) + 1)) + 1)) + 1))) = true := beq_iff_eq.mpr c12
           have c12b1 : (((rd_T55 l0 x5_1).f1.f4) != (wrap64 ((wrap64 ((wrap64 ((wrap64 ((wrap64 (x1_1 + 1)) + 1)) + 1)) + 1)) + 1))) = false := bne_eq_false_iff_eq.mpr c12
           clear c12
           by_cases c13 : ((rd_T55 l0 x5_1).f1.f5) = (wrap64 ((wrap64 ((wrap64 ((wrap64 ((wrap64 ((wrap64 (x1_1 + 1)) + 1)) + 1)) + 1)) + 1)) + 1))
           ·rw [if_pos c13] at H
            have c13b0 : (((rd_T55 l0 x5_1).f1.f5) == (wrap64 ((wrap64 ((wrap64 ((wrap64 ((wrap64 ((wrap64 (x1_1 + 1)) + 1)) + 1)) + 1)) + 1)) + 1))) = true := beq_iff_eq.mpr c13
            have c13b1 : (((rd_T55 l0 x5_1).f1.f5) != (wrap64 ((wrap64 ((wrap64 ((wrap64 ((wrap64 ((wrap64 (x1_1 + 1)) + 1)) + 1)) + 1)) + 1)) + 1))) = false := bne_eq_false_iff_eq.mpr c13
            clear c13
            by_cases c14 : ((rd_T55 l0 x5_1).f1.f6) = (wrap64 ((wrap64 ((wrap64 ((wrap64 ((wrap64 ((wrap64 ((wrap64 (x1_1 + 1)) + 1)) + 1)) + 1)) + 1)) + 1)) + 1))
            ·rw [if_pos c14] at H
             have c14b0 : (((rd_T55 l0 x5_1).f1.f6) == (wrap64 ((wrap64 ((wrap64 ((wrap64 ((wrap64 ((wrap64 ((wrap64 (x1_1 + 1)) + 1)) + 1)) + 1)) + 1)) + 1)) + 1))) = true := beq_iff_eq.mpr c14
             have c14b1 : (((rd_T55 l0 x5_1).f1.f6) != (wrap64 ((wrap64 ((wrap64 ((wrap64 ((wrap64 ((wrap64 ((wrap64 (x1_1 + 1)) + 1)) + 1)) + 1)) + 1)) + 1)) + 1))) = false := bne_eq_false_iff_eq.mpr c14
             clear c14
             have H' := Aside0.mk H
             clear H
             have p234 : 0 ≤ (x5_1 : Int) := of_decide_eq_true (by first | (with_reducible assumption) | assumption)
             have q234 : x5_1 < (l0.length : Int) := of_decide_eq_true (by first | (with_reducible assumption) | assumption)
             obtain ⟨ad234, e234, hx234_0, hx234_1, hx234_2, hx234_3, hx234_4, hx234_5, hx234_6, hx234_7⟩ := at_T55 HR0.out x5_1 p234 q234
             cases e234
             replace hx234_0 := zb HB.out hx234_0
             replace hx234_1 := zb HB.out hx234_1
             replace hx234_2 := zb HB.out hx234_2
             replace hx234_3 := zb HB.out hx234_3
             replace hx234_4 := zb HB.out hx234_4
             replace hx234_5 := zb HB.out hx234_5
             replace hx234_6 := zb HB.out hx234_6
             replace hx234_7 := zb HB.out hx234_7
             replace p234 := eq_true p234
             replace q234 := eq_true q234
             try go_wp2
             have n0_ := Aside0.mk (ze HB.out)
             clear HB
             have HB := n0_
             clear n0_
             have p235 : 0 ≤ (x5_1 : Int) := of_decide_eq_true (by first | (with_reducible assumption) | assumption)
             have q235 : x5_1 < (l0.length : Int) := of_decide_eq_true (by first | (with_reducible assumption) | assumption)
             obtain ⟨ad235, e235, hx235_0, hx235_1, hx235_2, hx235_3, hx235_4, hx235_5, hx235_6, hx235_7⟩ := at_T55 HR0.out x5_1 p235 q235
             have hw235_7 := hx235_7
             have hw235_6 := hx235_6
             have hw235_5 := hx235_5
             have hw235_4 := hx235_4
             have hw235_3 := hx235_3
             have hw235_2 := hx235_2
             have hw235_1 := hx235_1
             have hw235_0 := hx235_0
             obtain rfl : ad234 = ad235 := (by injection e235)
             replace hx235_0 := zb HB.out hx235_0
             replace hx235_1 := zb HB.out hx235_1
             replace hx235_2 := zb HB.out hx235_2
             replace hx235_3 := zb HB.out hx235_3
             replace hx235_4 := zb HB.out hx235_4
             replace hx235_5 := zb HB.out hx235_5
             replace hx235_6 := zb HB.out hx235_6
             replace hx235_7 := zb HB.out hx235_7
             replace p235 := eq_true p235
             replace q235 := eq_true q235
             refine start_ (n := 9) (S := fun w' => w'.cell? (ad234.add ((x5_1).toNat * 8)) = some (.bool ((rd_T55 l0 x5_1).f0)) ∧ w'.cell? ⟨(ad234.add ((x5_1).toNat * 8)).block, (ad234.add ((x5_1).toNat * 8)).off + 1, none⟩ = some (.string ((rd_T55 l0 x5_1).f1.f0)) ∧ w'.cell? ⟨(ad234.add ((x5_1).toNat * 8)).block, (ad234.add ((x5_1).toNat * 8)).off + 2, none⟩ = some (.string ((rd_T55 l0 x5_1).f1.f1)) ∧ w'.cell? ⟨(ad234.add ((x5_1).toNat * 8)).block, (ad234.add ((x5_1).toNat * 8)).off + 3, none⟩ = some (.int .i64 ((rd_T55 l0 x5_1).f1.f2)) ∧ w'.cell? ⟨(ad234.add ((x5_1).toNat * 8)).block, (ad234.add ((x5_1).toNat * 8)).off + 4, none⟩ = some (.int .i64 ((rd_T55 l0 x5_1).f1.f3)) ∧ w'.cell? ⟨(ad234.add ((x5_1).toNat * 8)).block, (ad234.add ((x5_1).toNat * 8)).off + 5, none⟩ = some (.int .i64 ((rd_T55 l0 x5_1).f1.f4)) ∧ w'.cell? ⟨(ad234.add ((x5_1).toNat * 8)).block, (ad234.add ((x5_1).toNat * 8)).off + 6, none⟩ = some (.int .i64 ((rd_T55 l0 x5_1).f1.f5)) ∧ w'.cell? ⟨(ad234.add ((x5_1).toNat * 8)).block, (ad234.add ((x5_1).toNat * 8)).off + 7, none⟩ = some (.int .i64 ((rd_T55 l0 x5_1).f1.f6))) (ds := []) #[false, false, false, false, false, false, false, false, false] (by kernel_rfl) rfl rfl ⟨(zb HB.out hw235_0), (zb HB.out hw235_1), (zb HB.out hw235_2), (zb HB.out hw235_3), (zb HB.out hw235_4), (zb HB.out hw235_5), (zb HB.out hw235_6), (zb HB.out hw235_7)⟩ (fun hHeld => ?_); refine with_tabW laws_heldEffectS.tab7 laws_heldEffectS.bits7 (fun HT_ HW_ => ?_)
             generalize wr.drew = w15 at HB hx235_0 hx235_1 hx235_2 hx235_3 hx235_4 hx235_5 hx235_6 hx235_7 hHeld ⊢
             refine zv (i := 0) (N := some 23) (v := ?_) (a' := ?_) #[true, false, false, false, false, false, false, false, false] rfl rfl (zu HT_.out (by kernel_rfl)) (fun _ _ _ h => h) (Or.inl ⟨by rfl, ?_⟩) ?_ ?_
             rotate_left
             ·intro w'
              go_simp
              with_reducible rfl
             rotate_left
             ·simp only [Act.put, List.setIfInBounds_toArray, List.set_cons_zero, List.set_cons_succ, zp, zr]
              rfl
             refine zv (i := 1) (N := some 24) (v := ?_) (a' := ?_) #[true, true, false, false, false, false, false, false, false] rfl rfl (zu HT_.out (by kernel_rfl)) (fun _ _ _ h => h) (Or.inl ⟨by rfl, ?_⟩) ?_ ?_
             rotate_left
             ·intro w'
              go_simp
              with_reducible rfl
             rotate_left
             ·simp only [Act.put, List.setIfInBounds_toArray, List.set_cons_zero, List.set_cons_succ, zp, zr]
              rfl
             refine zv (i := 2) (N := some 25) (v := ?_) (a' := ?_) #[true, true, true, false, false, false, false, false, false] rfl rfl (zu HT_.out (by kernel_rfl)) (fun _ _ _ h => h) (Or.inl ⟨by rfl, ?_⟩) ?_ ?_
             rotate_left
             ·intro w'
              go_simp
              with_reducible rfl
             rotate_left
             ·simp only [Act.put, List.setIfInBounds_toArray, List.set_cons_zero, List.set_cons_succ, zp, zr]
              rfl
             refine zv (i := 3) (N := some 26) (v := ?_) (a' := ?_) #[true, true, true, true, false, false, false, false, false] rfl rfl (zu HT_.out (by kernel_rfl)) (fun _ _ _ h => h) (Or.inl ⟨by rfl, ?_⟩) ?_ ?_
             rotate_left
             ·intro w'
              go_simp
              with_reducible rfl
             rotate_left
             ·simp only [Act.put, List.setIfInBounds_toArray, List.set_cons_zero, List.set_cons_succ, zp, zr]
              rfl
             refine zv (i := 4) (N := some 27) (v := ?_) (a' := ?_) #[true, true, true, true, true, false, false, false, false] rfl rfl (zu HT_.out (by kernel_rfl)) (fun _ _ _ h => h) (Or.inl ⟨by rfl, ?_⟩) ?_ ?_
             rotate_left
             ·intro w'
              go_simp
              with_reducible rfl
             rotate_left
             ·simp only [Act.put, List.setIfInBounds_toArray, List.set_cons_zero, List.set_cons_succ, zp, zr]
              rfl
             refine zv (i := 6) (N := some 29) (v := ?_) (a' := ?_) #[true, true, true, true, true, false, true, false, false] rfl rfl (zu HT_.out (by kernel_rfl)) (fun _ _ _ h => h) (Or.inl ⟨by rfl, ?_⟩) ?_ ?_
             rotate_left
             ·intro w'
              go_simp
              with_reducible rfl
             rotate_left
             ·simp only [Act.put, List.setIfInBounds_toArray, List.set_cons_zero, List.set_cons_succ, zp, zr]
              rfl
             refine take_ (i := 5) (N := some 28) (v := ?_) (a' := ?_) #[true, true, true, true, true, true, true, false, false] rfl rfl (take_ofW HT_.out HW_.out (by kernel_rfl)) (fun _ _ _ h => h) (Or.inl ⟨by rfl, ?_⟩) hHeld ?_ ?_
             rotate_left
             ·rintro w' ⟨s0, s1, s2, s3, s4, s5, s6, s7⟩
              go_simp
              with_reducible rfl
             rotate_left
             ·simp only [Act.put, List.setIfInBounds_toArray, List.set_cons_zero, List.set_cons_succ, zp, zr]
              rfl
             refine one_ (i := 7) (N := some 30) #[true, true, true, true, true, true, true, true, false] rfl rfl (one_of HT_.out (by kernel_rfl)) (by decide) (fun K hK => ?_)
             refine goes_ Tryd.func50 (by kernel_rfl) rfl #[.int .i64 (wrap64 (x1_1 + 1))] (by rfl) rfl rfl (by (try simp only [List.map_toArray, List.map_cons, List.map_nil]); first | done | rfl | (simp only [List.length_drop, List.length_take]; rfl)) ?_
             with_reducible refine (laws_markText.calls k1 (wrap64 (x1_1 + 1)) t236 _ A6.out).mono ?_
             rintro e w16 ⟨rfl, hb⟩
             refine ⟨_, rfl, ?_⟩
             have n0_ := Aside0.mk (zm (by repeat (first | (with_reducible first | exact HB.out | apply zf | apply zc | apply ze) | exact HB.out)) hb)
             clear HB
             have HB := n0_
             clear n0_
             (try clear hb)
             (try clear hb2)
             (try clear hk)
             (try clear hi)
             refine hK.out _ _ ⟨(zb HB.out hw235_0), (zb HB.out hw235_1), (zb HB.out hw235_2), (zb HB.out hw235_3), (zb HB.out hw235_4), (zb HB.out hw235_5), (zb HB.out hw235_6), (zb HB.out hw235_7)⟩ (fun hHeld => ?_)
             clear hK K
             refine norm_ (a' := ?_) ?_ ?_
             rotate_left
             ·show Act.put _ (some 30) _ = _
              simp only [Act.put, List.setIfInBounds_toArray, List.set_cons_zero, List.set_cons_succ, zp, zr]
              rfl
             refine zv (i := 8) (N := some 31) (v := ?_) (a' := ?_) #[true, true, true, true, true, true, true, true, true] rfl rfl (zu HT_.out (by kernel_rfl)) (fun _ _ _ h => h) (Or.inl ⟨by rfl, ?_⟩) ?_ ?_
             rotate_left
             ·intro w'
              go_simp
              with_reducible rfl
             rotate_left
             ·simp only [Act.put, List.setIfInBounds_toArray, List.set_cons_zero, List.set_cons_succ, zp, zr]
              rfl
             refine done_ (done_of HT_.out (by kernel_rfl)) ?_
             try go_wp2
             have n0_ := Aside0.mk (ze HB.out)
             clear HB
             have HB := n0_
             clear n0_
             have p237 : 0 ≤ (x5_1 : Int) := of_decide_eq_true (by first | (with_reducible assumption) | assumption)
             have q237 : x5_1 < (l0.length : Int) := of_decide_eq_true (by first | (with_reducible assumption) | assumption)
             obtain ⟨ad237, e237, hx237_0, hx237_1, hx237_2, hx237_3, hx237_4, hx237_5, hx237_6, hx237_7⟩ := at_T55 HR0.out x5_1 p237 q237
             have hw237_7 := hx237_7
             have hw237_6 := hx237_6
             have hw237_5 := hx237_5
             have hw237_4 := hx237_4
             have hw237_3 := hx237_3
             have hw237_2 := hx237_2
             have hw237_1 := hx237_1
             have hw237_0 := hx237_0
             obtain rfl : ad234 = ad237 := (by injection e237)
             replace hx237_0 := zb HB.out hx237_0
             replace hx237_1 := zb HB.out hx237_1
             replace hx237_2 := zb HB.out hx237_2
             replace hx237_3 := zb HB.out hx237_3
             replace hx237_4 := zb HB.out hx237_4
             replace hx237_5 := zb HB.out hx237_5
             replace hx237_6 := zb HB.out hx237_6
             replace hx237_7 := zb HB.out hx237_7
             replace p237 := eq_true p237
             replace q237 := eq_true q237
             refine start_ (n := 9) (S := fun w' => w'.cell? (ad234.add ((x5_1).toNat * 8)) = some (.bool ((rd_T55 l0 x5_1).f0)) ∧ w'.cell? ⟨(ad234.add ((x5_1).toNat * 8)).block, (ad234.add ((x5_1).toNat * 8)).off + 1, none⟩ = some (.string ((rd_T55 l0 x5_1).f1.f0)) ∧ w'.cell? ⟨(ad234.add ((x5_1).toNat * 8)).block, (ad234.add ((x5_1).toNat * 8)).off + 2, none⟩ = some (.string ((rd_T55 l0 x5_1).f1.f1)) ∧ w'.cell? ⟨(ad234.add ((x5_1).toNat * 8)).block, (ad234.add ((x5_1).toNat * 8)).off + 3, none⟩ = some (.int .i64 ((rd_T55 l0 x5_1).f1.f2)) ∧ w'.cell? ⟨(ad234.add ((x5_1).toNat * 8)).block, (ad234.add ((x5_1).toNat * 8)).off + 4, none⟩ = some (.int .i64 ((rd_T55 l0 x5_1).f1.f3)) ∧ w'.cell? ⟨(ad234.add ((x5_1).toNat * 8)).block, (ad234.add ((x5_1).toNat * 8)).off + 5, none⟩ = some (.int .i64 ((rd_T55 l0 x5_1).f1.f4)) ∧ w'.cell? ⟨(ad234.add ((x5_1).toNat * 8)).block, (ad234.add ((x5_1).toNat * 8)).off + 6, none⟩ = some (.int .i64 ((rd_T55 l0 x5_1).f1.f5)) ∧ w'.cell? ⟨(ad234.add ((x5_1).toNat * 8)).block, (ad234.add ((x5_1).toNat * 8)).off + 7, none⟩ = some (.int .i64 ((rd_T55 l0 x5_1).f1.f6))) (ds := []) #[false, false, false, false, false, false, false, false, false] (by kernel_rfl) rfl rfl ⟨(zb HB.out hw237_0), (zb HB.out hw237_1), (zb HB.out hw237_2), (zb HB.out hw237_3), (zb HB.out hw237_4), (zb HB.out hw237_5), (zb HB.out hw237_6), (zb HB.out hw237_7)⟩ (fun hHeld => ?_); refine with_tabW laws_heldEffectS.tab10 laws_heldEffectS.bits10 (fun HT_ HW_ => ?_)
             generalize w16.drew = w17 at HB hx237_0 hx237_1 hx237_2 hx237_3 hx237_4 hx237_5 hx237_6 hx237_7 hHeld ⊢
             refine zv (i := 0) (N := some 34) (v := ?_) (a' := ?_) #[true, false, false, false, false, false, false, false, false] rfl rfl (zu HT_.out (by kernel_rfl)) (fun _ _ _ h => h) (Or.inl ⟨by rfl, ?_⟩) ?_ ?_
             rotate_left
             ·intro w'
              go_simp
              with_reducible rfl
             rotate_left
             ·simp only [Act.put, List.setIfInBounds_toArray, List.set_cons_zero, List.set_cons_succ, zp, zr]
              rfl
             refine zv (i := 1) (N := some 35) (v := ?_) (a' := ?_) #[true, true, false, false, false, false, false, false, false] rfl rfl (zu HT_.out (by kernel_rfl)) (fun _ _ _ h => h) (Or.inl ⟨by rfl, ?_⟩) ?_ ?_
             rotate_left
             ·intro w'
              go_simp
              with_reducible rfl
             rotate_left
             ·simp only [Act.put, List.setIfInBounds_toArray, List.set_cons_zero, List.set_cons_succ, zp, zr]
              rfl
             refine zv (i := 2) (N := some 36) (v := ?_) (a' := ?_) #[true, true, true, false, false, false, false, false, false] rfl rfl (zu HT_.out (by kernel_rfl)) (fun _ _ _ h => h) (Or.inl ⟨by rfl, ?_⟩) ?_ ?_
             rotate_left
             ·intro w'
              go_simp
              with_reducible rfl
             rotate_left
             ·simp only [Act.put, List.setIfInBounds_toArray, List.set_cons_zero, List.set_cons_succ, zp, zr]
              rfl
             refine zv (i := 3) (N := some 37) (v := ?_) (a' := ?_) #[true, true, true, true, false, false, false, false, false] rfl rfl (zu HT_.out (by kernel_rfl)) (fun _ _ _ h => h) (Or.inl ⟨by rfl, ?_⟩) ?_ ?_
             rotate_left
             ·intro w'
              go_simp
              with_reducible rfl
             rotate_left
             ·simp only [Act.put, List.setIfInBounds_toArray, List.set_cons_zero, List.set_cons_succ, zp, zr]
              rfl
             refine zv (i := 4) (N := some 38) (v := ?_) (a' := ?_) #[true, true, true, true, true, false, false, false, false] rfl rfl (zu HT_.out (by kernel_rfl)) (fun _ _ _ h => h) (Or.inl ⟨by rfl, ?_⟩) ?_ ?_
             rotate_left
             ·intro w'
              go_simp
              with_reducible rfl
             rotate_left
             ·simp only [Act.put, List.setIfInBounds_toArray, List.set_cons_zero, List.set_cons_succ, zp, zr]
              rfl
             refine zv (i := 6) (N := some 40) (v := ?_) (a' := ?_) #[true, true, true, true, true, false, true, false, false] rfl rfl (zu HT_.out (by kernel_rfl)) (fun _ _ _ h => h) (Or.inl ⟨by rfl, ?_⟩) ?_ ?_
             rotate_left
             ·intro w'
              go_simp
              with_reducible rfl
             rotate_left
             ·simp only [Act.put, List.setIfInBounds_toArray, List.set_cons_zero, List.set_cons_succ, zp, zr]
              rfl
             refine take_ (i := 5) (N := some 39) (v := ?_) (a' := ?_) #[true, true, true, true, true, true, true, false, false] rfl rfl (take_ofW HT_.out HW_.out (by kernel_rfl)) (fun _ _ _ h => h) (Or.inl ⟨by rfl, ?_⟩) hHeld ?_ ?_
             rotate_left
             ·rintro w' ⟨s0, s1, s2, s3, s4, s5, s6, s7⟩
              go_simp
              with_reducible rfl
             rotate_left
             ·simp only [Act.put, List.setIfInBounds_toArray, List.set_cons_zero, List.set_cons_succ, zp, zr]
              rfl
             refine one_ (i := 7) (N := some 41) #[true, true, true, true, true, true, true, true, false] rfl rfl (one_of HT_.out (by kernel_rfl)) (by decide) (fun K hK => ?_)
             refine goes_ Tryd.func50 (by kernel_rfl) rfl #[.int .i64 (wrap64 ((wrap64 (x1_1 + 1)) + 1))] (by rfl) rfl rfl (by (try simp only [List.map_toArray, List.map_cons, List.map_nil]); first | done | rfl | (simp only [List.length_drop, List.length_take]; rfl)) ?_
             with_reducible refine (laws_markText.calls k1 (wrap64 ((wrap64 (x1_1 + 1)) + 1)) t238 _ A8.out).mono ?_
             rintro e w18 ⟨rfl, hb⟩
             refine ⟨_, rfl, ?_⟩
             have n0_ := Aside0.mk (zm (by repeat (first | (with_reducible first | exact HB.out | apply zf | apply zc | apply ze) | exact HB.out)) hb)
             clear HB
             have HB := n0_
             clear n0_
             (try clear hb)
             (try clear hb2)
             (try clear hk)
             (try clear hi)
             refine hK.out _ _ ⟨(zb HB.out hw237_0), (zb HB.out hw237_1), (zb HB.out hw237_2), (zb HB.out hw237_3), (zb HB.out hw237_4), (zb HB.out hw237_5), (zb HB.out hw237_6), (zb HB.out hw237_7)⟩ (fun hHeld => ?_)
             clear hK K
             refine norm_ (a' := ?_) ?_ ?_
             rotate_left
             ·show Act.put _ (some 41) _ = _
              simp only [Act.put, List.setIfInBounds_toArray, List.set_cons_zero, List.set_cons_succ, zp, zr]
              rfl
             refine zv (i := 8) (N := some 42) (v := ?_) (a' := ?_) #[true, true, true, true, true, true, true, true, true] rfl rfl (zu HT_.out (by kernel_rfl)) (fun _ _ _ h => h) (Or.inl ⟨by rfl, ?_⟩) ?_ ?_
             rotate_left
             ·intro w'
              go_simp
              with_reducible rfl
             rotate_left
             ·simp only [Act.put, List.setIfInBounds_toArray, List.set_cons_zero, List.set_cons_succ, zp, zr]
              rfl
             refine done_ (done_of HT_.out (by kernel_rfl)) ?_
             have p239 : 0 ≤ (x5_1 : Int) := of_decide_eq_true (by first | (with_reducible assumption) | assumption)
             have q239 : x5_1 < (l0.length : Int) := of_decide_eq_true (by first | (with_reducible assumption) | assumption)
             obtain ⟨ad239, e239, hx239_0, hx239_1, hx239_2, hx239_3, hx239_4, hx239_5, hx239_6, hx239_7⟩ := at_T55 HR0.out x5_1 p239 q239
             obtain rfl : ad234 = ad239 := (by injection e239)
             replace hx239_0 := zb HB.out hx239_0
             replace hx239_1 := zb HB.out hx239_1
             replace hx239_2 := zb HB.out hx239_2
             replace hx239_3 := zb HB.out hx239_3
             replace hx239_4 := zb HB.out hx239_4
             replace hx239_5 := zb HB.out hx239_5
             replace hx239_6 := zb HB.out hx239_6
             replace hx239_7 := zb HB.out hx239_7
             replace p239 := eq_true p239
             replace q239 := eq_true q239
             have p240 : 0 ≤ (x5_1 : Int) := of_decide_eq_true (by first | (with_reducible assumption) | assumption)
             have q240 : x5_1 < (l0.length : Int) := of_decide_eq_true (by first | (with_reducible assumption) | assumption)
             obtain ⟨ad240, e240, hx240_0, hx240_1, hx240_2, hx240_3, hx240_4, hx240_5, hx240_6, hx240_7⟩ := at_T55 HR0.out x5_1 p240 q240
             obtain rfl : ad234 = ad240 := (by injection e240)
             replace hx240_0 := zb HB.out hx240_0
             replace hx240_1 := zb HB.out hx240_1
             replace hx240_2 := zb HB.out hx240_2
             replace hx240_3 := zb HB.out hx240_3
             replace hx240_4 := zb HB.out hx240_4
             replace hx240_5 := zb HB.out hx240_5
             replace hx240_6 := zb HB.out hx240_6
             replace hx240_7 := zb HB.out hx240_7
             replace p240 := eq_true p240
             replace q240 := eq_true q240
             have p241 : 0 ≤ (x5_1 : Int) := of_decide_eq_true (by first | (with_reducible assumption) | assumption)
             have q241 : x5_1 < (l0.length : Int) := of_decide_eq_true (by first | (with_reducible assumption) | assumption)
             obtain ⟨ad241, e241, hx241_0, hx241_1, hx241_2, hx241_3, hx241_4, hx241_5, hx241_6, hx241_7⟩ := at_T55 HR0.out x5_1 p241 q241
             obtain rfl : ad234 = ad241 := (by injection e241)
             replace hx241_0 := zb HB.out hx241_0
             replace hx241_1 := zb HB.out hx241_1
             replace hx241_2 := zb HB.out hx241_2
             replace hx241_3 := zb HB.out hx241_3
             replace hx241_4 := zb HB.out hx241_4
             replace hx241_5 := zb HB.out hx241_5
             replace hx241_6 := zb HB.out hx241_6
             replace hx241_7 := zb HB.out hx241_7
             replace p241 := eq_true p241
             replace q241 := eq_true q241
             have p242 : 0 ≤ (x5_1 : Int) := of_decide_eq_true (by first | (with_reducible assumption) | assumption)
             have q242 : x5_1 < (l0.length : Int) := of_decide_eq_true (by first | (with_reducible assumption) | assumption)
             obtain ⟨ad242, e242, hx242_0, hx242_1, hx242_2, hx242_3, hx242_4, hx242_5, hx242_6, hx242_7⟩ := at_T55 HR0.out x5_1 p242 q242
             obtain rfl : ad234 = ad242 := (by injection e242)
             replace hx242_0 := zb HB.out hx242_0
             replace hx242_1 := zb HB.out hx242_1
             replace hx242_2 := zb HB.out hx242_2
             replace hx242_3 := zb HB.out hx242_3
             replace hx242_4 := zb HB.out hx242_4
             replace hx242_5 := zb HB.out hx242_5
             replace hx242_6 := zb HB.out hx242_6
             replace hx242_7 := zb HB.out hx242_7
             replace p242 := eq_true p242
             replace q242 := eq_true q242
             have p243 : 0 ≤ (x5_1 : Int) := of_decide_eq_true (by first | (with_reducible assumption) | assumption)
             have q243 : x5_1 < (l0.length : Int) := of_decide_eq_true (by first | (with_reducible assumption) | assumption)
             obtain ⟨ad243, e243, hx243_0, hx243_1, hx243_2, hx243_3, hx243_4, hx243_5, hx243_6, hx243_7⟩ := at_T55 HR0.out x5_1 p243 q243
             obtain rfl : ad234 = ad243 := (by injection e243)
             replace hx243_0 := zb HB.out hx243_0
             replace hx243_1 := zb HB.out hx243_1
             replace hx243_2 := zb HB.out hx243_2
             replace hx243_3 := zb HB.out hx243_3
             replace hx243_4 := zb HB.out hx243_4
             replace hx243_5 := zb HB.out hx243_5
             replace hx243_6 := zb HB.out hx243_6
             replace hx243_7 := zb HB.out hx243_7
             replace p243 := eq_true p243
             replace q243 := eq_true q243
             try go_wp2
             go_roundg k1
             case measure => have := HK1.out; omega
             case rel => exact ⟨(wrap64 ((wrap64 ((wrap64 ((wrap64 ((wrap64 ((wrap64 ((wrap64 ((wrap64 (x1_1 + 1)) + 1)) + 1)) + 1)) + 1)) + 1)) + 1)) + 1)), (wrap64 (x5_1 + 1)), (by first | rfl | (simp; done) | (simp [*]; done)), (by first | rfl | (simp; done) | (simp [*]; done)), H', ⟨by have := HK1.out; omega⟩, ⟨by repeat (first | (with_reducible first | exact HB.out | apply zf | apply zc | apply ze) | exact HB.out)⟩⟩
            ·rw [if_neg c14] at H
             have c14b0 : (((rd_T55 l0 x5_1).f1.f6) == (wrap64 ((wrap64 ((wrap64 ((wrap64 ((wrap64 ((wrap64 ((wrap64 (x1_1 + 1)) + 1)) + 1)) + 1)) + 1)) + 1)) + 1))) = false := beq_eq_false_iff_ne.mpr c14
             have c14b1 : (((rd_T55 l0 x5_1).f1.f6) != (wrap64 ((wrap64 ((wrap64 ((wrap64 ((wrap64 ((wrap64 ((wrap64 (x1_1 + 1)) + 1)) + 1)) + 1)) + 1)) + 1)) + 1))) = true := bne_iff_ne.mpr c14
             obtain rfl := Option.some.inj H
             have p234 : 0 ≤ (x5_1 : Int) := of_decide_eq_true (by first | (with_reducible assumption) | assumption)
             have q234 : x5_1 < (l0.length : Int) := of_decide_eq_true (by first | (with_reducible assumption) | assumption)
             obtain ⟨ad234, e234, hx234_0, hx234_1, hx234_2, hx234_3, hx234_4, hx234_5, hx234_6, hx234_7⟩ := at_T55 HR0.out x5_1 p234 q234
             cases e234
             replace hx234_0 := zb HB.out hx234_0
             replace hx234_1 := zb HB.out hx234_1
             replace hx234_2 := zb HB.out hx234_2
             replace hx234_3 := zb HB.out hx234_3
             replace hx234_4 := zb HB.out hx234_4
             replace hx234_5 := zb HB.out hx234_5
             replace hx234_6 := zb HB.out hx234_6
             replace hx234_7 := zb HB.out hx234_7
             replace p234 := eq_true p234
             replace q234 := eq_true q234
             try go_wp2
             have n0_ := Aside0.mk (ze HB.out)
             clear HB
             have HB := n0_
             clear n0_
             have p235 : 0 ≤ (x5_1 : Int) := of_decide_eq_true (by first | (with_reducible assumption) | assumption)
             have q235 : x5_1 < (l0.length : Int) := of_decide_eq_true (by first | (with_reducible assumption) | assumption)
             obtain ⟨ad235, e235, hx235_0, hx235_1, hx235_2, hx235_3, hx235_4, hx235_5, hx235_6, hx235_7⟩ := at_T55 HR0.out x5_1 p235 q235
             have hw235_7 := hx235_7
             have hw235_6 := hx235_6
             have hw235_5 := hx235_5
             have hw235_4 := hx235_4
             have hw235_3 := hx235_3
             have hw235_2 := hx235_2
             have hw235_1 := hx235_1
             have hw235_0 := hx235_0
             obtain rfl : ad234 = ad235 := (by injection e235)
             replace hx235_0 := zb HB.out hx235_0
             replace hx235_1 := zb HB.out hx235_1
             replace hx235_2 := zb HB.out hx235_2
             replace hx235_3 := zb HB.out hx235_3
             replace hx235_4 := zb HB.out hx235_4
             replace hx235_5 := zb HB.out hx235_5
             replace hx235_6 := zb HB.out hx235_6
             replace hx235_7 := zb HB.out hx235_7
             replace p235 := eq_true p235
             replace q235 := eq_true q235
             refine start_ (n := 9) (S := fun w' => w'.cell? (ad234.add ((x5_1).toNat * 8)) = some (.bool ((rd_T55 l0 x5_1).f0)) ∧ w'.cell? ⟨(ad234.add ((x5_1).toNat * 8)).block, (ad234.add ((x5_1).toNat * 8)).off + 1, none⟩ = some (.string ((rd_T55 l0 x5_1).f1.f0)) ∧ w'.cell? ⟨(ad234.add ((x5_1).toNat * 8)).block, (ad234.add ((x5_1).toNat * 8)).off + 2, none⟩ = some (.string ((rd_T55 l0 x5_1).f1.f1)) ∧ w'.cell? ⟨(ad234.add ((x5_1).toNat * 8)).block, (ad234.add ((x5_1).toNat * 8)).off + 3, none⟩ = some (.int .i64 ((rd_T55 l0 x5_1).f1.f2)) ∧ w'.cell? ⟨(ad234.add ((x5_1).toNat * 8)).block, (ad234.add ((x5_1).toNat * 8)).off + 4, none⟩ = some (.int .i64 ((rd_T55 l0 x5_1).f1.f3)) ∧ w'.cell? ⟨(ad234.add ((x5_1).toNat * 8)).block, (ad234.add ((x5_1).toNat * 8)).off + 5, none⟩ = some (.int .i64 ((rd_T55 l0 x5_1).f1.f4)) ∧ w'.cell? ⟨(ad234.add ((x5_1).toNat * 8)).block, (ad234.add ((x5_1).toNat * 8)).off + 6, none⟩ = some (.int .i64 ((rd_T55 l0 x5_1).f1.f5)) ∧ w'.cell? ⟨(ad234.add ((x5_1).toNat * 8)).block, (ad234.add ((x5_1).toNat * 8)).off + 7, none⟩ = some (.int .i64 ((rd_T55 l0 x5_1).f1.f6))) (ds := []) #[false, false, false, false, false, false, false, false, false] (by kernel_rfl) rfl rfl ⟨(zb HB.out hw235_0), (zb HB.out hw235_1), (zb HB.out hw235_2), (zb HB.out hw235_3), (zb HB.out hw235_4), (zb HB.out hw235_5), (zb HB.out hw235_6), (zb HB.out hw235_7)⟩ (fun hHeld => ?_); refine with_tabW laws_heldEffectS.tab7 laws_heldEffectS.bits7 (fun HT_ HW_ => ?_)
             generalize wr.drew = w19 at HB hx235_0 hx235_1 hx235_2 hx235_3 hx235_4 hx235_5 hx235_6 hx235_7 hHeld ⊢
             refine zv (i := 0) (N := some 23) (v := ?_) (a' := ?_) #[true, false, false, false, false, false, false, false, false] rfl rfl (zu HT_.out (by kernel_rfl)) (fun _ _ _ h => h) (Or.inl ⟨by rfl, ?_⟩) ?_ ?_
             rotate_left
             ·intro w'
              go_simp
              with_reducible rfl
             rotate_left
             ·simp only [Act.put, List.setIfInBounds_toArray, List.set_cons_zero, List.set_cons_succ, zp, zr]
              rfl
             refine zv (i := 1) (N := some 24) (v := ?_) (a' := ?_) #[true, true, false, false, false, false, false, false, false] rfl rfl (zu HT_.out (by kernel_rfl)) (fun _ _ _ h => h) (Or.inl ⟨by rfl, ?_⟩) ?_ ?_
             rotate_left
             ·intro w'
              go_simp
              with_reducible rfl
             rotate_left
             ·simp only [Act.put, List.setIfInBounds_toArray, List.set_cons_zero, List.set_cons_succ, zp, zr]
              rfl
             refine zv (i := 2) (N := some 25) (v := ?_) (a' := ?_) #[true, true, true, false, false, false, false, false, false] rfl rfl (zu HT_.out (by kernel_rfl)) (fun _ _ _ h => h) (Or.inl ⟨by rfl, ?_⟩) ?_ ?_
             rotate_left
             ·intro w'
              go_simp
              with_reducible rfl
             rotate_left
             ·simp only [Act.put, List.setIfInBounds_toArray, List.set_cons_zero, List.set_cons_succ, zp, zr]
              rfl
             refine zv (i := 3) (N := some 26) (v := ?_) (a' := ?_) #[true, true, true, true, false, false, false, false, false] rfl rfl (zu HT_.out (by kernel_rfl)) (fun _ _ _ h => h) (Or.inl ⟨by rfl, ?_⟩) ?_ ?_
             rotate_left
             ·intro w'
              go_simp
              with_reducible rfl
             rotate_left
             ·simp only [Act.put, List.setIfInBounds_toArray, List.set_cons_zero, List.set_cons_succ, zp, zr]
              rfl
             refine zv (i := 4) (N := some 27) (v := ?_) (a' := ?_) #[true, true, true, true, true, false, false, false, false] rfl rfl (zu HT_.out (by kernel_rfl)) (fun _ _ _ h => h) (Or.inl ⟨by rfl, ?_⟩) ?_ ?_
             rotate_left
             ·intro w'
              go_simp
              with_reducible rfl
             rotate_left
             ·simp only [Act.put, List.setIfInBounds_toArray, List.set_cons_zero, List.set_cons_succ, zp, zr]
              rfl
             refine zv (i := 6) (N := some 29) (v := ?_) (a' := ?_) #[true, true, true, true, true, false, true, false, false] rfl rfl (zu HT_.out (by kernel_rfl)) (fun _ _ _ h => h) (Or.inl ⟨by rfl, ?_⟩) ?_ ?_
             rotate_left
             ·intro w'
              go_simp
              with_reducible rfl
             rotate_left
             ·simp only [Act.put, List.setIfInBounds_toArray, List.set_cons_zero, List.set_cons_succ, zp, zr]
              rfl
             refine take_ (i := 5) (N := some 28) (v := ?_) (a' := ?_) #[true, true, true, true, true, true, true, false, false] rfl rfl (take_ofW HT_.out HW_.out (by kernel_rfl)) (fun _ _ _ h => h) (Or.inl ⟨by rfl, ?_⟩) hHeld ?_ ?_
             rotate_left
             ·rintro w' ⟨s0, s1, s2, s3, s4, s5, s6, s7⟩
              go_simp
              with_reducible rfl
             rotate_left
             ·simp only [Act.put, List.setIfInBounds_toArray, List.set_cons_zero, List.set_cons_succ, zp, zr]
              rfl
             refine one_ (i := 7) (N := some 30) #[true, true, true, true, true, true, true, true, false] rfl rfl (one_of HT_.out (by kernel_rfl)) (by decide) (fun K hK => ?_)
             refine goes_ Tryd.func50 (by kernel_rfl) rfl #[.int .i64 (wrap64 (x1_1 + 1))] (by rfl) rfl rfl (by (try simp only [List.map_toArray, List.map_cons, List.map_nil]); first | done | rfl | (simp only [List.length_drop, List.length_take]; rfl)) ?_
             with_reducible refine (laws_markText.calls k1 (wrap64 (x1_1 + 1)) t236 _ A6.out).mono ?_
             rintro e w20 ⟨rfl, hb⟩
             refine ⟨_, rfl, ?_⟩
             have n0_ := Aside0.mk (zm (by repeat (first | (with_reducible first | exact HB.out | apply zf | apply zc | apply ze) | exact HB.out)) hb)
             clear HB
             have HB := n0_
             clear n0_
             (try clear hb)
             (try clear hb2)
             (try clear hk)
             (try clear hi)
             refine hK.out _ _ ⟨(zb HB.out hw235_0), (zb HB.out hw235_1), (zb HB.out hw235_2), (zb HB.out hw235_3), (zb HB.out hw235_4), (zb HB.out hw235_5), (zb HB.out hw235_6), (zb HB.out hw235_7)⟩ (fun hHeld => ?_)
             clear hK K
             refine norm_ (a' := ?_) ?_ ?_
             rotate_left
             ·show Act.put _ (some 30) _ = _
              simp only [Act.put, List.setIfInBounds_toArray, List.set_cons_zero, List.set_cons_succ, zp, zr]
              rfl
             refine zv (i := 8) (N := some 31) (v := ?_) (a' := ?_) #[true, true, true, true, true, true, true, true, true] rfl rfl (zu HT_.out (by kernel_rfl)) (fun _ _ _ h => h) (Or.inl ⟨by rfl, ?_⟩) ?_ ?_
             rotate_left
             ·intro w'
              go_simp
              with_reducible rfl
             rotate_left
             ·simp only [Act.put, List.setIfInBounds_toArray, List.set_cons_zero, List.set_cons_succ, zp, zr]
              rfl
             refine done_ (done_of HT_.out (by kernel_rfl)) ?_
             try go_wp2
             have n0_ := Aside0.mk (ze HB.out)
             clear HB
             have HB := n0_
             clear n0_
             have p237 : 0 ≤ (x5_1 : Int) := of_decide_eq_true (by first | (with_reducible assumption) | assumption)
             have q237 : x5_1 < (l0.length : Int) := of_decide_eq_true (by first | (with_reducible assumption) | assumption)
             obtain ⟨ad237, e237, hx237_0, hx237_1, hx237_2, hx237_3, hx237_4, hx237_5, hx237_6, hx237_7⟩ := at_T55 HR0.out x5_1 p237 q237
             have hw237_7 := hx237_7
             have hw237_6 := hx237_6
             have hw237_5 := hx237_5
             have hw237_4 := hx237_4
             have hw237_3 := hx237_3
             have hw237_2 := hx237_2
             have hw237_1 := hx237_1
             have hw237_0 := hx237_0
             obtain rfl : ad234 = ad237 := (by injection e237)
             replace hx237_0 := zb HB.out hx237_0
             replace hx237_1 := zb HB.out hx237_1
             replace hx237_2 := zb HB.out hx237_2
             replace hx237_3 := zb HB.out hx237_3
             replace hx237_4 := zb HB.out hx237_4
             replace hx237_5 := zb HB.out hx237_5
             replace hx237_6 := zb HB.out hx237_6
             replace hx237_7 := zb HB.out hx237_7
             replace p237 := eq_true p237
             replace q237 := eq_true q237
             refine start_ (n := 9) (S := fun w' => w'.cell? (ad234.add ((x5_1).toNat * 8)) = some (.bool ((rd_T55 l0 x5_1).f0)) ∧ w'.cell? ⟨(ad234.add ((x5_1).toNat * 8)).block, (ad234.add ((x5_1).toNat * 8)).off + 1, none⟩ = some (.string ((rd_T55 l0 x5_1).f1.f0)) ∧ w'.cell? ⟨(ad234.add ((x5_1).toNat * 8)).block, (ad234.add ((x5_1).toNat * 8)).off + 2, none⟩ = some (.string ((rd_T55 l0 x5_1).f1.f1)) ∧ w'.cell? ⟨(ad234.add ((x5_1).toNat * 8)).block, (ad234.add ((x5_1).toNat * 8)).off + 3, none⟩ = some (.int .i64 ((rd_T55 l0 x5_1).f1.f2)) ∧ w'.cell? ⟨(ad234.add ((x5_1).toNat * 8)).block, (ad234.add ((x5_1).toNat * 8)).off + 4, none⟩ = some (.int .i64 ((rd_T55 l0 x5_1).f1.f3)) ∧ w'.cell? ⟨(ad234.add ((x5_1).toNat * 8)).block, (ad234.add ((x5_1).toNat * 8)).off + 5, none⟩ = some (.int .i64 ((rd_T55 l0 x5_1).f1.f4)) ∧ w'.cell? ⟨(ad234.add ((x5_1).toNat * 8)).block, (ad234.add ((x5_1).toNat * 8)).off + 6, none⟩ = some (.int .i64 ((rd_T55 l0 x5_1).f1.f5)) ∧ w'.cell? ⟨(ad234.add ((x5_1).toNat * 8)).block, (ad234.add ((x5_1).toNat * 8)).off + 7, none⟩ = some (.int .i64 ((rd_T55 l0 x5_1).f1.f6))) (ds := []) #[false, false, false, false, false, false, false, false, false] (by kernel_rfl) rfl rfl ⟨(zb HB.out hw237_0), (zb HB.out hw237_1), (zb HB.out hw237_2), (zb HB.out hw237_3), (zb HB.out hw237_4), (zb HB.out hw237_5), (zb HB.out hw237_6), (zb HB.out hw237_7)⟩ (fun hHeld => ?_); refine with_tabW laws_heldEffectS.tab10 laws_heldEffectS.bits10 (fun HT_ HW_ => ?_)
             generalize w20.drew = w21 at HB hx237_0 hx237_1 hx237_2 hx237_3 hx237_4 hx237_5 hx237_6 hx237_7 hHeld ⊢
             refine zv (i := 0) (N := some 34) (v := ?_) (a' := ?_) #[true, false, false, false, false, false, false, false, false] rfl rfl (zu HT_.out (by kernel_rfl)) (fun _ _ _ h => h) (Or.inl ⟨by rfl, ?_⟩) ?_ ?_
             rotate_left
             ·intro w'
              go_simp
              with_reducible rfl
             rotate_left
             ·simp only [Act.put, List.setIfInBounds_toArray, List.set_cons_zero, List.set_cons_succ, zp, zr]
              rfl
             refine zv (i := 1) (N := some 35) (v := ?_) (a' := ?_) #[true, true, false, false, false, false, false, false, false] rfl rfl (zu HT_.out (by kernel_rfl)) (fun _ _ _ h => h) (Or.inl ⟨by rfl, ?_⟩) ?_ ?_
             rotate_left
             ·intro w'
              go_simp
              with_reducible rfl
             rotate_left
             ·simp only [Act.put, List.setIfInBounds_toArray, List.set_cons_zero, List.set_cons_succ, zp, zr]
              rfl
             refine zv (i := 2) (N := some 36) (v := ?_) (a' := ?_) #[true, true, true, false, false, false, false, false, false] rfl rfl (zu HT_.out (by kernel_rfl)) (fun _ _ _ h => h) (Or.inl ⟨by rfl, ?_⟩) ?_ ?_
             rotate_left
             ·intro w'
              go_simp
              with_reducible rfl
             rotate_left
             ·simp only [Act.put, List.setIfInBounds_toArray, List.set_cons_zero, List.set_cons_succ, zp, zr]
              rfl
             refine zv (i := 3) (N := some 37) (v := ?_) (a' := ?_) #[true, true, true, true, false, false, false, false, false] rfl rfl (zu HT_.out (by kernel_rfl)) (fun _ _ _ h => h) (Or.inl ⟨by rfl, ?_⟩) ?_ ?_
             rotate_left
             ·intro w'
              go_simp
              with_reducible rfl
             rotate_left
             ·simp only [Act.put, List.setIfInBounds_toArray, List.set_cons_zero, List.set_cons_succ, zp, zr]
              rfl
             refine zv (i := 4) (N := some 38) (v := ?_) (a' := ?_) #[true, true, true, true, true, false, false, false, false] rfl rfl (zu HT_.out (by kernel_rfl)) (fun _ _ _ h => h) (Or.inl ⟨by rfl, ?_⟩) ?_ ?_
             rotate_left
             ·intro w'
              go_simp
              with_reducible rfl
             rotate_left
             ·simp only [Act.put, List.setIfInBounds_toArray, List.set_cons_zero, List.set_cons_succ, zp, zr]
              rfl
             refine zv (i := 6) (N := some 40) (v := ?_) (a' := ?_) #[true, true, true, true, true, false, true, false, false] rfl rfl (zu HT_.out (by kernel_rfl)) (fun _ _ _ h => h) (Or.inl ⟨by rfl, ?_⟩) ?_ ?_
             rotate_left
             ·intro w'
              go_simp
              with_reducible rfl
             rotate_left
             ·simp only [Act.put, List.setIfInBounds_toArray, List.set_cons_zero, List.set_cons_succ, zp, zr]
              rfl
             refine take_ (i := 5) (N := some 39) (v := ?_) (a' := ?_) #[true, true, true, true, true, true, true, false, false] rfl rfl (take_ofW HT_.out HW_.out (by kernel_rfl)) (fun _ _ _ h => h) (Or.inl ⟨by rfl, ?_⟩) hHeld ?_ ?_
             rotate_left
             ·rintro w' ⟨s0, s1, s2, s3, s4, s5, s6, s7⟩
              go_simp
              with_reducible rfl
             rotate_left
             ·simp only [Act.put, List.setIfInBounds_toArray, List.set_cons_zero, List.set_cons_succ, zp, zr]
              rfl
             refine one_ (i := 7) (N := some 41) #[true, true, true, true, true, true, true, true, false] rfl rfl (one_of HT_.out (by kernel_rfl)) (by decide) (fun K hK => ?_)
             refine goes_ Tryd.func50 (by kernel_rfl) rfl #[.int .i64 (wrap64 ((wrap64 (x1_1 + 1)) + 1))] (by rfl) rfl rfl (by (try simp only [List.map_toArray, List.map_cons, List.map_nil]); first | done | rfl | (simp only [List.length_drop, List.length_take]; rfl)) ?_
             with_reducible refine (laws_markText.calls k1 (wrap64 ((wrap64 (x1_1 + 1)) + 1)) t238 _ A8.out).mono ?_
             rintro e w22 ⟨rfl, hb⟩
             refine ⟨_, rfl, ?_⟩
             have n0_ := Aside0.mk (zm (by repeat (first | (with_reducible first | exact HB.out | apply zf | apply zc | apply ze) | exact HB.out)) hb)
             clear HB
             have HB := n0_
             clear n0_
             (try clear hb)
             (try clear hb2)
             (try clear hk)
             (try clear hi)
             refine hK.out _ _ ⟨(zb HB.out hw237_0), (zb HB.out hw237_1), (zb HB.out hw237_2), (zb HB.out hw237_3), (zb HB.out hw237_4), (zb HB.out hw237_5), (zb HB.out hw237_6), (zb HB.out hw237_7)⟩ (fun hHeld => ?_)
             clear hK K
             refine norm_ (a' := ?_) ?_ ?_
             rotate_left
             ·show Act.put _ (some 41) _ = _
              simp only [Act.put, List.setIfInBounds_toArray, List.set_cons_zero, List.set_cons_succ, zp, zr]
              rfl
             refine zv (i := 8) (N := some 42) (v := ?_) (a' := ?_) #[true, true, true, true, true, true, true, true, true] rfl rfl (zu HT_.out (by kernel_rfl)) (fun _ _ _ h => h) (Or.inl ⟨by rfl, ?_⟩) ?_ ?_
             rotate_left
             ·intro w'
              go_simp
              with_reducible rfl
             rotate_left
             ·simp only [Act.put, List.setIfInBounds_toArray, List.set_cons_zero, List.set_cons_succ, zp, zr]
              rfl
             refine done_ (done_of HT_.out (by kernel_rfl)) ?_
             have p239 : 0 ≤ (x5_1 : Int) := of_decide_eq_true (by first | (with_reducible assumption) | assumption)
             have q239 : x5_1 < (l0.length : Int) := of_decide_eq_true (by first | (with_reducible assumption) | assumption)
             obtain ⟨ad239, e239, hx239_0, hx239_1, hx239_2, hx239_3, hx239_4, hx239_5, hx239_6, hx239_7⟩ := at_T55 HR0.out x5_1 p239 q239
             obtain rfl : ad234 = ad239 := (by injection e239)
             replace hx239_0 := zb HB.out hx239_0
             replace hx239_1 := zb HB.out hx239_1
             replace hx239_2 := zb HB.out hx239_2
             replace hx239_3 := zb HB.out hx239_3
             replace hx239_4 := zb HB.out hx239_4
             replace hx239_5 := zb HB.out hx239_5
             replace hx239_6 := zb HB.out hx239_6
             replace hx239_7 := zb HB.out hx239_7
             replace p239 := eq_true p239
             replace q239 := eq_true q239
             have p240 : 0 ≤ (x5_1 : Int) := of_decide_eq_true (by first | (with_reducible assumption) | assumption)
             have q240 : x5_1 < (l0.length : Int) := of_decide_eq_true (by first | (with_reducible assumption) | assumption)
             obtain ⟨ad240, e240, hx240_0, hx240_1, hx240_2, hx240_3, hx240_4, hx240_5, hx240_6, hx240_7⟩ := at_T55 HR0.out x5_1 p240 q240
             obtain rfl : ad234 = ad240 := (by injection e240)
             replace hx240_0 := zb HB.out hx240_0
             replace hx240_1 := zb HB.out hx240_1
             replace hx240_2 := zb HB.out hx240_2
             replace hx240_3 := zb HB.out hx240_3
             replace hx240_4 := zb HB.out hx240_4
             replace hx240_5 := zb HB.out hx240_5
             replace hx240_6 := zb HB.out hx240_6
             replace hx240_7 := zb HB.out hx240_7
             replace p240 := eq_true p240
             replace q240 := eq_true q240
             have p241 : 0 ≤ (x5_1 : Int) := of_decide_eq_true (by first | (with_reducible assumption) | assumption)
             have q241 : x5_1 < (l0.length : Int) := of_decide_eq_true (by first | (with_reducible assumption) | assumption)
             obtain ⟨ad241, e241, hx241_0, hx241_1, hx241_2, hx241_3, hx241_4, hx241_5, hx241_6, hx241_7⟩ := at_T55 HR0.out x5_1 p241 q241
             obtain rfl : ad234 = ad241 := (by injection e241)
             replace hx241_0 := zb HB.out hx241_0
             replace hx241_1 := zb HB.out hx241_1
             replace hx241_2 := zb HB.out hx241_2
             replace hx241_3 := zb HB.out hx241_3
             replace hx241_4 := zb HB.out hx241_4
             replace hx241_5 := zb HB.out hx241_5
             replace hx241_6 := zb HB.out hx241_6
             replace hx241_7 := zb HB.out hx241_7
             replace p241 := eq_true p241
             replace q241 := eq_true q241
             have p242 : 0 ≤ (x5_1 : Int) := of_decide_eq_true (by first | (with_reducible assumption) | assumption)
             have q242 : x5_1 < (l0.length : Int) := of_decide_eq_true (by first | (with_reducible assumption) | assumption)
             obtain ⟨ad242, e242, hx242_0, hx242_1, hx242_2, hx242_3, hx242_4, hx242_5, hx242_6, hx242_7⟩ := at_T55 HR0.out x5_1 p242 q242
             obtain rfl : ad234 = ad242 := (by injection e242)
             replace hx242_0 := zb HB.out hx242_0
             replace hx242_1 := zb HB.out hx242_1
             replace hx242_2 := zb HB.out hx242_2
             replace hx242_3 := zb HB.out hx242_3
             replace hx242_4 := zb HB.out hx242_4
             replace hx242_5 := zb HB.out hx242_5
             replace hx242_6 := zb HB.out hx242_6
             replace hx242_7 := zb HB.out hx242_7
             replace p242 := eq_true p242
             replace q242 := eq_true q242
             have p243 : 0 ≤ (x5_1 : Int) := of_decide_eq_true (by first | (with_reducible assumption) | assumption)
             have q243 : x5_1 < (l0.length : Int) := of_decide_eq_true (by first | (with_reducible assumption) | assumption)
             obtain ⟨ad243, e243, hx243_0, hx243_1, hx243_2, hx243_3, hx243_4, hx243_5, hx243_6, hx243_7⟩ := at_T55 HR0.out x5_1 p243 q243
             obtain rfl : ad234 = ad243 := (by injection e243)
             replace hx243_0 := zb HB.out hx243_0
             replace hx243_1 := zb HB.out hx243_1
             replace hx243_2 := zb HB.out hx243_2
             replace hx243_3 := zb HB.out hx243_3
             replace hx243_4 := zb HB.out hx243_4
             replace hx243_5 := zb HB.out hx243_5
             replace hx243_6 := zb HB.out hx243_6
             replace hx243_7 := zb HB.out hx243_7
             replace p243 := eq_true p243
             replace q243 := eq_true q243
             try go_wp2
             go_ret
             exact ⟨by first | rfl | (simp [errW_none, errW_some] <;> rfl) | (simp [*, errW_none, errW_some] <;> rfl), by repeat (first | (with_reducible first | exact HB.out | apply zf | apply zc | apply ze) | exact HB.out)⟩
           ·rw [if_neg c13] at H
            have c13b0 : (((rd_T55 l0 x5_1).f1.f5) == (wrap64 ((wrap64 ((wrap64 ((wrap64 ((wrap64 ((wrap64 (x1_1 + 1)) + 1)) + 1)) + 1)) + 1)) + 1))) = false := beq_eq_false_iff_ne.mpr c13
            have c13b1 : (((rd_T55 l0 x5_1).f1.f5) != (wrap64 ((wrap64 ((wrap64 ((wrap64 ((wrap64 ((wrap64 (x1_1 + 1)) + 1)) + 1)) + 1)) + 1)) + 1))) = true := bne_iff_ne.mpr c13
            obtain rfl := Option.some.inj H
            have p234 : 0 ≤ (x5_1 : Int) := of_decide_eq_true (by first | (with_reducible assumption) | assumption)
            have q234 : x5_1 < (l0.length : Int) := of_decide_eq_true (by first | (with_reducible assumption) | assumption)
            obtain ⟨ad234, e234, hx234_0, hx234_1, hx234_2, hx234_3, hx234_4, hx234_5, hx234_6, hx234_7⟩ := at_T55 HR0.out x5_1 p234 q234
            cases e234
            replace hx234_0 := zb HB.out hx234_0
            replace hx234_1 := zb HB.out hx234_1
            replace hx234_2 := zb HB.out hx234_2
            replace hx234_3 := zb HB.out hx234_3
            replace hx234_4 := zb HB.out hx234_4
            replace hx234_5 := zb HB.out hx234_5
            replace hx234_6 := zb HB.out hx234_6
            replace hx234_7 := zb HB.out hx234_7
            replace p234 := eq_true p234
            replace q234 := eq_true q234
            try go_wp2
            have n0_ := Aside0.mk (ze HB.out)
            clear HB
            have HB := n0_
            clear n0_
            have p235 : 0 ≤ (x5_1 : Int) := of_decide_eq_true (by first | (with_reducible assumption) | assumption)
            have q235 : x5_1 < (l0.length : Int) := of_decide_eq_true (by first | (with_reducible assumption) | assumption)
            obtain ⟨ad235, e235, hx235_0, hx235_1, hx235_2, hx235_3, hx235_4, hx235_5, hx235_6, hx235_7⟩ := at_T55 HR0.out x5_1 p235 q235
            have hw235_7 := hx235_7
            have hw235_6 := hx235_6
            have hw235_5 := hx235_5
            have hw235_4 := hx235_4
            have hw235_3 := hx235_3
            have hw235_2 := hx235_2
            have hw235_1 := hx235_1
            have hw235_0 := hx235_0
            obtain rfl : ad234 = ad235 := (by injection e235)
            replace hx235_0 := zb HB.out hx235_0
            replace hx235_1 := zb HB.out hx235_1
            replace hx235_2 := zb HB.out hx235_2
            replace hx235_3 := zb HB.out hx235_3
            replace hx235_4 := zb HB.out hx235_4
            replace hx235_5 := zb HB.out hx235_5
            replace hx235_6 := zb HB.out hx235_6
            replace hx235_7 := zb HB.out hx235_7
            replace p235 := eq_true p235
            replace q235 := eq_true q235
            refine start_ (n := 9) (S := fun w' => w'.cell? (ad234.add ((x5_1).toNat * 8)) = some (.bool ((rd_T55 l0 x5_1).f0)) ∧ w'.cell? ⟨(ad234.add ((x5_1).toNat * 8)).block, (ad234.add ((x5_1).toNat * 8)).off + 1, none⟩ = some (.string ((rd_T55 l0 x5_1).f1.f0)) ∧ w'.cell? ⟨(ad234.add ((x5_1).toNat * 8)).block, (ad234.add ((x5_1).toNat * 8)).off + 2, none⟩ = some (.string ((rd_T55 l0 x5_1).f1.f1)) ∧ w'.cell? ⟨(ad234.add ((x5_1).toNat * 8)).block, (ad234.add ((x5_1).toNat * 8)).off + 3, none⟩ = some (.int .i64 ((rd_T55 l0 x5_1).f1.f2)) ∧ w'.cell? ⟨(ad234.add ((x5_1).toNat * 8)).block, (ad234.add ((x5_1).toNat * 8)).off + 4, none⟩ = some (.int .i64 ((rd_T55 l0 x5_1).f1.f3)) ∧ w'.cell? ⟨(ad234.add ((x5_1).toNat * 8)).block, (ad234.add ((x5_1).toNat * 8)).off + 5, none⟩ = some (.int .i64 ((rd_T55 l0 x5_1).f1.f4)) ∧ w'.cell? ⟨(ad234.add ((x5_1).toNat * 8)).block, (ad234.add ((x5_1).toNat * 8)).off + 6, none⟩ = some (.int .i64 ((rd_T55 l0 x5_1).f1.f5)) ∧ w'.cell? ⟨(ad234.add ((x5_1).toNat * 8)).block, (ad234.add ((x5_1).toNat * 8)).off + 7, none⟩ = some (.int .i64 ((rd_T55 l0 x5_1).f1.f6))) (ds := []) #[false, false, false, false, false, false, false, false, false] (by kernel_rfl) rfl rfl ⟨(zb HB.out hw235_0), (zb HB.out hw235_1), (zb HB.out hw235_2), (zb HB.out hw235_3), (zb HB.out hw235_4), (zb HB.out hw235_5), (zb HB.out hw235_6), (zb HB.out hw235_7)⟩ (fun hHeld => ?_); refine with_tabW laws_heldEffectS.tab7 laws_heldEffectS.bits7 (fun HT_ HW_ => ?_)
            generalize wr.drew = w23 at HB hx235_0 hx235_1 hx235_2 hx235_3 hx235_4 hx235_5 hx235_6 hx235_7 hHeld ⊢
            refine zv (i := 0) (N := some 23) (v := ?_) (a' := ?_) #[true, false, false, false, false, false, false, false, false] rfl rfl (zu HT_.out (by kernel_rfl)) (fun _ _ _ h => h) (Or.inl ⟨by rfl, ?_⟩) ?_ ?_
            rotate_left
            ·intro w'
             go_simp
             with_reducible rfl
            rotate_left
            ·simp only [Act.put, List.setIfInBounds_toArray, List.set_cons_zero, List.set_cons_succ, zp, zr]
             rfl
            refine zv (i := 1) (N := some 24) (v := ?_) (a' := ?_) #[true, true, false, false, false, false, false, false, false] rfl rfl (zu HT_.out (by kernel_rfl)) (fun _ _ _ h => h) (Or.inl ⟨by rfl, ?_⟩) ?_ ?_
            rotate_left
            ·intro w'
             go_simp
             with_reducible rfl
            rotate_left
            ·simp only [Act.put, List.setIfInBounds_toArray, List.set_cons_zero, List.set_cons_succ, zp, zr]
             rfl
            refine zv (i := 2) (N := some 25) (v := ?_) (a' := ?_) #[true, true, true, false, false, false, false, false, false] rfl rfl (zu HT_.out (by kernel_rfl)) (fun _ _ _ h => h) (Or.inl ⟨by rfl, ?_⟩) ?_ ?_
            rotate_left
            ·intro w'
             go_simp
             with_reducible rfl
            rotate_left
            ·simp only [Act.put, List.setIfInBounds_toArray, List.set_cons_zero, List.set_cons_succ, zp, zr]
             rfl
            refine zv (i := 3) (N := some 26) (v := ?_) (a' := ?_) #[true, true, true, true, false, false, false, false, false] rfl rfl (zu HT_.out (by kernel_rfl)) (fun _ _ _ h => h) (Or.inl ⟨by rfl, ?_⟩) ?_ ?_
            rotate_left
            ·intro w'
             go_simp
             with_reducible rfl
            rotate_left
            ·simp only [Act.put, List.setIfInBounds_toArray, List.set_cons_zero, List.set_cons_succ, zp, zr]
             rfl
            refine zv (i := 4) (N := some 27) (v := ?_) (a' := ?_) #[true, true, true, true, true, false, false, false, false] rfl rfl (zu HT_.out (by kernel_rfl)) (fun _ _ _ h => h) (Or.inl ⟨by rfl, ?_⟩) ?_ ?_
            rotate_left
            ·intro w'
             go_simp
             with_reducible rfl
            rotate_left
            ·simp only [Act.put, List.setIfInBounds_toArray, List.set_cons_zero, List.set_cons_succ, zp, zr]
             rfl
            refine zv (i := 6) (N := some 29) (v := ?_) (a' := ?_) #[true, true, true, true, true, false, true, false, false] rfl rfl (zu HT_.out (by kernel_rfl)) (fun _ _ _ h => h) (Or.inl ⟨by rfl, ?_⟩) ?_ ?_
            rotate_left
            ·intro w'
             go_simp
             with_reducible rfl
            rotate_left
            ·simp only [Act.put, List.setIfInBounds_toArray, List.set_cons_zero, List.set_cons_succ, zp, zr]
             rfl
            refine take_ (i := 5) (N := some 28) (v := ?_) (a' := ?_) #[true, true, true, true, true, true, true, false, false] rfl rfl (take_ofW HT_.out HW_.out (by kernel_rfl)) (fun _ _ _ h => h) (Or.inl ⟨by rfl, ?_⟩) hHeld ?_ ?_
            rotate_left
            ·rintro w' ⟨s0, s1, s2, s3, s4, s5, s6, s7⟩
             go_simp
             with_reducible rfl
            rotate_left
            ·simp only [Act.put, List.setIfInBounds_toArray, List.set_cons_zero, List.set_cons_succ, zp, zr]
             rfl
            refine one_ (i := 7) (N := some 30) #[true, true, true, true, true, true, true, true, false] rfl rfl (one_of HT_.out (by kernel_rfl)) (by decide) (fun K hK => ?_)
            refine goes_ Tryd.func50 (by kernel_rfl) rfl #[.int .i64 (wrap64 (x1_1 + 1))] (by rfl) rfl rfl (by (try simp only [List.map_toArray, List.map_cons, List.map_nil]); first | done | rfl | (simp only [List.length_drop, List.length_take]; rfl)) ?_
            with_reducible refine (laws_markText.calls k1 (wrap64 (x1_1 + 1)) t236 _ A6.out).mono ?_
            rintro e w24 ⟨rfl, hb⟩
            refine ⟨_, rfl, ?_⟩
            have n0_ := Aside0.mk (zm (by repeat (first | (with_reducible first | exact HB.out | apply zf | apply zc | apply ze) | exact HB.out)) hb)
            clear HB
            have HB := n0_
            clear n0_
            (try clear hb)
            (try clear hb2)
            (try clear hk)
            (try clear hi)
            refine hK.out _ _ ⟨(zb HB.out hw235_0), (zb HB.out hw235_1), (zb HB.out hw235_2), (zb HB.out hw235_3), (zb HB.out hw235_4), (zb HB.out hw235_5), (zb HB.out hw235_6), (zb HB.out hw235_7)⟩ (fun hHeld => ?_)
            clear hK K
            refine norm_ (a' := ?_) ?_ ?_
            rotate_left
            ·show Act.put _ (some 30) _ = _
             simp only [Act.put, List.setIfInBounds_toArray, List.set_cons_zero, List.set_cons_succ, zp, zr]
             rfl
            refine zv (i := 8) (N := some 31) (v := ?_) (a' := ?_) #[true, true, true, true, true, true, true, true, true] rfl rfl (zu HT_.out (by kernel_rfl)) (fun _ _ _ h => h) (Or.inl ⟨by rfl, ?_⟩) ?_ ?_
            rotate_left
            ·intro w'
             go_simp
             with_reducible rfl
            rotate_left
            ·simp only [Act.put, List.setIfInBounds_toArray, List.set_cons_zero, List.set_cons_succ, zp, zr]
             rfl
            refine done_ (done_of HT_.out (by kernel_rfl)) ?_
            try go_wp2
            have n0_ := Aside0.mk (ze HB.out)
            clear HB
            have HB := n0_
            clear n0_
            have p237 : 0 ≤ (x5_1 : Int) := of_decide_eq_true (by first | (with_reducible assumption) | assumption)
            have q237 : x5_1 < (l0.length : Int) := of_decide_eq_true (by first | (with_reducible assumption) | assumption)
            obtain ⟨ad237, e237, hx237_0, hx237_1, hx237_2, hx237_3, hx237_4, hx237_5, hx237_6, hx237_7⟩ := at_T55 HR0.out x5_1 p237 q237
            have hw237_7 := hx237_7
            have hw237_6 := hx237_6
            have hw237_5 := hx237_5
            have hw237_4 := hx237_4
            have hw237_3 := hx237_3
            have hw237_2 := hx237_2
            have hw237_1 := hx237_1
            have hw237_0 := hx237_0
            obtain rfl : ad234 = ad237 := (by injection e237)
            replace hx237_0 := zb HB.out hx237_0
            replace hx237_1 := zb HB.out hx237_1
            replace hx237_2 := zb HB.out hx237_2
            replace hx237_3 := zb HB.out hx237_3
            replace hx237_4 := zb HB.out hx237_4
            replace hx237_5 := zb HB.out hx237_5
            replace hx237_6 := zb HB.out hx237_6
            replace hx237_7 := zb HB.out hx237_7
            replace p237 := eq_true p237
            replace q237 := eq_true q237
            refine start_ (n := 9) (S := fun w' => w'.cell? (ad234.add ((x5_1).toNat * 8)) = some (.bool ((rd_T55 l0 x5_1).f0)) ∧ w'.cell? ⟨(ad234.add ((x5_1).toNat * 8)).block, (ad234.add ((x5_1).toNat * 8)).off + 1, none⟩ = some (.string ((rd_T55 l0 x5_1).f1.f0)) ∧ w'.cell? ⟨(ad234.add ((x5_1).toNat * 8)).block, (ad234.add ((x5_1).toNat * 8)).off + 2, none⟩ = some (.string ((rd_T55 l0 x5_1).f1.f1)) ∧ w'.cell? ⟨(ad234.add ((x5_1).toNat * 8)).block, (ad234.add ((x5_1).toNat * 8)).off + 3, none⟩ = some (.int .i64 ((rd_T55 l0 x5_1).f1.f2)) ∧ w'.cell? ⟨(ad234.add ((x5_1).toNat * 8)).block, (ad234.add ((x5_1).toNat * 8)).off + 4, none⟩ = some (.int .i64 ((rd_T55 l0 x5_1).f1.f3)) ∧ w'.cell? ⟨(ad234.add ((x5_1).toNat * 8)).block, (ad234.add ((x5_1).toNat * 8)).off + 5, none⟩ = some (.int .i64 ((rd_T55 l0 x5_1).f1.f4)) ∧ w'.cell? ⟨(ad234.add ((x5_1).toNat * 8)).block, (ad234.add ((x5_1).toNat * 8)).off + 6, none⟩ = some (.int .i64 ((rd_T55 l0 x5_1).f1.f5)) ∧ w'.cell? ⟨(ad234.add ((x5_1).toNat * 8)).block, (ad234.add ((x5_1).toNat * 8)).off + 7, none⟩ = some (.int .i64 ((rd_T55 l0 x5_1).f1.f6))) (ds := []) #[false, false, false, false, false, false, false, false, false] (by kernel_rfl) rfl rfl ⟨(zb HB.out hw237_0), (zb HB.out hw237_1), (zb HB.out hw237_2), (zb HB.out hw237_3), (zb HB.out hw237_4), (zb HB.out hw237_5), (zb HB.out hw237_6), (zb HB.out hw237_7)⟩ (fun hHeld => ?_); refine with_tabW laws_heldEffectS.tab10 laws_heldEffectS.bits10 (fun HT_ HW_ => ?_)
            generalize w24.drew = w25 at HB hx237_0 hx237_1 hx237_2 hx237_3 hx237_4 hx237_5 hx237_6 hx237_7 hHeld ⊢
            refine zv (i := 0) (N := some 34) (v := ?_) (a' := ?_) #[true, false, false, false, false, false, false, false, false] rfl rfl (zu HT_.out (by kernel_rfl)) (fun _ _ _ h => h) (Or.inl ⟨by rfl, ?_⟩) ?_ ?_
            rotate_left
            ·intro w'
             go_simp
             with_reducible rfl
            rotate_left
            ·simp only [Act.put, List.setIfInBounds_toArray, List.set_cons_zero, List.set_cons_succ, zp, zr]
             rfl
            refine zv (i := 1) (N := some 35) (v := ?_) (a' := ?_) #[true, true, false, false, false, false, false, false, false] rfl rfl (zu HT_.out (by kernel_rfl)) (fun _ _ _ h => h) (Or.inl ⟨by rfl, ?_⟩) ?_ ?_
            rotate_left
            ·intro w'
             go_simp
             with_reducible rfl
            rotate_left
            ·simp only [Act.put, List.setIfInBounds_toArray, List.set_cons_zero, List.set_cons_succ, zp, zr]
             rfl
            refine zv (i := 2) (N := some 36) (v := ?_) (a' := ?_) #[true, true, true, false, false, false, false, false, false] rfl rfl (zu HT_.out (by kernel_rfl)) (fun _ _ _ h => h) (Or.inl ⟨by rfl, ?_⟩) ?_ ?_
            rotate_left
            ·intro w'
             go_simp
             with_reducible rfl
            rotate_left
            ·simp only [Act.put, List.setIfInBounds_toArray, List.set_cons_zero, List.set_cons_succ, zp, zr]
             rfl
            refine zv (i := 3) (N := some 37) (v := ?_) (a' := ?_) #[true, true, true, true, false, false, false, false, false] rfl rfl (zu HT_.out (by kernel_rfl)) (fun _ _ _ h => h) (Or.inl ⟨by rfl, ?_⟩) ?_ ?_
            rotate_left
            ·intro w'
             go_simp
             with_reducible rfl
            rotate_left
            ·simp only [Act.put, List.setIfInBounds_toArray, List.set_cons_zero, List.set_cons_succ, zp, zr]
             rfl
            refine zv (i := 4) (N := some 38) (v := ?_) (a' := ?_) #[true, true, true, true, true, false, false, false, false] rfl rfl (zu HT_.out (by kernel_rfl)) (fun _ _ _ h => h) (Or.inl ⟨by rfl, ?_⟩) ?_ ?_
            rotate_left
            ·intro w'
             go_simp
             with_reducible rfl
            rotate_left
            ·simp only [Act.put, List.setIfInBounds_toArray, List.set_cons_zero, List.set_cons_succ, zp, zr]
             rfl
            refine zv (i := 6) (N := some 40) (v := ?_) (a' := ?_) #[true, true, true, true, true, false, true, false, false] rfl rfl (zu HT_.out (by kernel_rfl)) (fun _ _ _ h => h) (Or.inl ⟨by rfl, ?_⟩) ?_ ?_
            rotate_left
            ·intro w'
             go_simp
             with_reducible rfl
            rotate_left
            ·simp only [Act.put, List.setIfInBounds_toArray, List.set_cons_zero, List.set_cons_succ, zp, zr]
             rfl
            refine take_ (i := 5) (N := some 39) (v := ?_) (a' := ?_) #[true, true, true, true, true, true, true, false, false] rfl rfl (take_ofW HT_.out HW_.out (by kernel_rfl)) (fun _ _ _ h => h) (Or.inl ⟨by rfl, ?_⟩) hHeld ?_ ?_
            rotate_left
            ·rintro w' ⟨s0, s1, s2, s3, s4, s5, s6, s7⟩
             go_simp
             with_reducible rfl
            rotate_left
            ·simp only [Act.put, List.setIfInBounds_toArray, List.set_cons_zero, List.set_cons_succ, zp, zr]
             rfl
            refine one_ (i := 7) (N := some 41) #[true, true, true, true, true, true, true, true, false] rfl rfl (one_of HT_.out (by kernel_rfl)) (by decide) (fun K hK => ?_)
            refine goes_ Tryd.func50 (by kernel_rfl) rfl #[.int .i64 (wrap64 ((wrap64 (x1_1 + 1)) + 1))] (by rfl) rfl rfl (by (try simp only [List.map_toArray, List.map_cons, List.map_nil]); first | done | rfl | (simp only [List.length_drop, List.length_take]; rfl)) ?_
            with_reducible refine (laws_markText.calls k1 (wrap64 ((wrap64 (x1_1 + 1)) + 1)) t238 _ A8.out).mono ?_
            rintro e w26 ⟨rfl, hb⟩
            refine ⟨_, rfl, ?_⟩
            have n0_ := Aside0.mk (zm (by repeat (first | (with_reducible first | exact HB.out | apply zf | apply zc | apply ze) | exact HB.out)) hb)
            clear HB
            have HB := n0_
            clear n0_
            (try clear hb)
            (try clear hb2)
            (try clear hk)
            (try clear hi)
            refine hK.out _ _ ⟨(zb HB.out hw237_0), (zb HB.out hw237_1), (zb HB.out hw237_2), (zb HB.out hw237_3), (zb HB.out hw237_4), (zb HB.out hw237_5), (zb HB.out hw237_6), (zb HB.out hw237_7)⟩ (fun hHeld => ?_)
            clear hK K
            refine norm_ (a' := ?_) ?_ ?_
            rotate_left
            ·show Act.put _ (some 41) _ = _
             simp only [Act.put, List.setIfInBounds_toArray, List.set_cons_zero, List.set_cons_succ, zp, zr]
             rfl
            refine zv (i := 8) (N := some 42) (v := ?_) (a' := ?_) #[true, true, true, true, true, true, true, true, true] rfl rfl (zu HT_.out (by kernel_rfl)) (fun _ _ _ h => h) (Or.inl ⟨by rfl, ?_⟩) ?_ ?_
            rotate_left
            ·intro w'
             go_simp
             with_reducible rfl
            rotate_left
            ·simp only [Act.put, List.setIfInBounds_toArray, List.set_cons_zero, List.set_cons_succ, zp, zr]
             rfl
            refine done_ (done_of HT_.out (by kernel_rfl)) ?_
            have p239 : 0 ≤ (x5_1 : Int) := of_decide_eq_true (by first | (with_reducible assumption) | assumption)
            have q239 : x5_1 < (l0.length : Int) := of_decide_eq_true (by first | (with_reducible assumption) | assumption)
            obtain ⟨ad239, e239, hx239_0, hx239_1, hx239_2, hx239_3, hx239_4, hx239_5, hx239_6, hx239_7⟩ := at_T55 HR0.out x5_1 p239 q239
            obtain rfl : ad234 = ad239 := (by injection e239)
            replace hx239_0 := zb HB.out hx239_0
            replace hx239_1 := zb HB.out hx239_1
            replace hx239_2 := zb HB.out hx239_2
            replace hx239_3 := zb HB.out hx239_3
            replace hx239_4 := zb HB.out hx239_4
            replace hx239_5 := zb HB.out hx239_5
            replace hx239_6 := zb HB.out hx239_6
            replace hx239_7 := zb HB.out hx239_7
            replace p239 := eq_true p239
            replace q239 := eq_true q239
            have p240 : 0 ≤ (x5_1 : Int) := of_decide_eq_true (by first | (with_reducible assumption) | assumption)
            have q240 : x5_1 < (l0.length : Int) := of_decide_eq_true (by first | (with_reducible assumption) | assumption)
            obtain ⟨ad240, e240, hx240_0, hx240_1, hx240_2, hx240_3, hx240_4, hx240_5, hx240_6, hx240_7⟩ := at_T55 HR0.out x5_1 p240 q240
            obtain rfl : ad234 = ad240 := (by injection e240)
            replace hx240_0 := zb HB.out hx240_0
            replace hx240_1 := zb HB.out hx240_1
            replace hx240_2 := zb HB.out hx240_2
            replace hx240_3 := zb HB.out hx240_3
            replace hx240_4 := zb HB.out hx240_4
            replace hx240_5 := zb HB.out hx240_5
            replace hx240_6 := zb HB.out hx240_6
            replace hx240_7 := zb HB.out hx240_7
            replace p240 := eq_true p240
            replace q240 := eq_true q240
            have p241 : 0 ≤ (x5_1 : Int) := of_decide_eq_true (by first | (with_reducible assumption) | assumption)
            have q241 : x5_1 < (l0.length : Int) := of_decide_eq_true (by first | (with_reducible assumption) | assumption)
            obtain ⟨ad241, e241, hx241_0, hx241_1, hx241_2, hx241_3, hx241_4, hx241_5, hx241_6, hx241_7⟩ := at_T55 HR0.out x5_1 p241 q241
            obtain rfl : ad234 = ad241 := (by injection e241)
            replace hx241_0 := zb HB.out hx241_0
            replace hx241_1 := zb HB.out hx241_1
            replace hx241_2 := zb HB.out hx241_2
            replace hx241_3 := zb HB.out hx241_3
            replace hx241_4 := zb HB.out hx241_4
            replace hx241_5 := zb HB.out hx241_5
            replace hx241_6 := zb HB.out hx241_6
            replace hx241_7 := zb HB.out hx241_7
            replace p241 := eq_true p241
            replace q241 := eq_true q241
            have p242 : 0 ≤ (x5_1 : Int) := of_decide_eq_true (by first | (with_reducible assumption) | assumption)
            have q242 : x5_1 < (l0.length : Int) := of_decide_eq_true (by first | (with_reducible assumption) | assumption)
            obtain ⟨ad242, e242, hx242_0, hx242_1, hx242_2, hx242_3, hx242_4, hx242_5, hx242_6, hx242_7⟩ := at_T55 HR0.out x5_1 p242 q242
            obtain rfl : ad234 = ad242 := (by injection e242)
            replace hx242_0 := zb HB.out hx242_0
            replace hx242_1 := zb HB.out hx242_1
            replace hx242_2 := zb HB.out hx242_2
            replace hx242_3 := zb HB.out hx242_3
            replace hx242_4 := zb HB.out hx242_4
            replace hx242_5 := zb HB.out hx242_5
            replace hx242_6 := zb HB.out hx242_6
            replace hx242_7 := zb HB.out hx242_7
            replace p242 := eq_true p242
            replace q242 := eq_true q242
            try go_wp2
            go_ret
            exact ⟨by first | rfl | (simp [errW_none, errW_some] <;> rfl) | (simp [*, errW_none, errW_some] <;> rfl), by repeat (first | (with_reducible first | exact HB.out | apply zf | apply zc | apply ze) | exact HB.out)⟩
          ·rw [if_neg c12] at H
           have c12b0 : (((rd_T55 l0 x5_1).f1.f4) == (wrap64 ((wrap64 ((wrap64 ((wrap64 ((wrap64 (x1_1 + 1)) + 1)) + 1)) + 1)) + 1))) = false := beq_eq_false_iff_ne.mpr c12
           have c12b1 : (((rd_T55 l0 x5_1).f1.f4) != (wrap64 ((wrap64 ((wrap64 ((wrap64 ((wrap64 (x1_1 + 1)) + 1)) + 1)) + 1)) + 1))) = true := bne_iff_ne.mpr c12
           obtain rfl := Option.some.inj H
           have p234 : 0 ≤ (x5_1 : Int) := of_decide_eq_true (by first | (with_reducible assumption) | assumption)
           have q234 : x5_1 < (l0.length : Int) := of_decide_eq_true (by first | (with_reducible assumption) | assumption)
           obtain ⟨ad234, e234, hx234_0, hx234_1, hx234_2, hx234_3, hx234_4, hx234_5, hx234_6, hx234_7⟩ := at_T55 HR0.out x5_1 p234 q234
           cases e234
           replace hx234_0 := zb HB.out hx234_0
           replace hx234_1 := zb HB.out hx234_1
           replace hx234_2 := zb HB.out hx234_2
           replace hx234_3 := zb HB.out hx234_3
           replace hx234_4 := zb HB.out hx234_4
           replace hx234_5 := zb HB.out hx234_5
           replace hx234_6 := zb HB.out hx234_6
           replace hx234_7 := zb HB.out hx234_7
           replace p234 := eq_true p234
           replace q234 := eq_true q234
           try go_wp2
           have n0_ := Aside0.mk (ze HB.out)
           clear HB
           have HB := n0_
           clear n0_
           have p235 : 0 ≤ (x5_1 : Int) := of_decide_eq_true (by first | (with_reducible assumption) | assumption)
           have q235 : x5_1 < (l0.length : Int) := of_decide_eq_true (by first | (with_reducible assumption) | assumption)
           obtain ⟨ad235, e235, hx235_0, hx235_1, hx235_2, hx235_3, hx235_4, hx235_5, hx235_6, hx235_7⟩ := at_T55 HR0.out x5_1 p235 q235
           have hw235_7 := hx235_7
           have hw235_6 := hx235_6
           have hw235_5 := hx235_5
           have hw235_4 := hx235_4
           have hw235_3 := hx235_3
           have hw235_2 := hx235_2
           have hw235_1 := hx235_1
           have hw235_0 := hx235_0
           obtain rfl : ad234 = ad235 := (by injection e235)
           replace hx235_0 := zb HB.out hx235_0
           replace hx235_1 := zb HB.out hx235_1
           replace hx235_2 := zb HB.out hx235_2
           replace hx235_3 := zb HB.out hx235_3
           replace hx235_4 := zb HB.out hx235_4
           replace hx235_5 := zb HB.out hx235_5
           replace hx235_6 := zb HB.out hx235_6
           replace hx235_7 := zb HB.out hx235_7
           replace p235 := eq_true p235
           replace q235 := eq_true q235
           refine start_ (n := 9) (S := fun w' => w'.cell? (ad234.add ((x5_1).toNat * 8)) = some (.bool ((rd_T55 l0 x5_1).f0)) ∧ w'.cell? ⟨(ad234.add ((x5_1).toNat * 8)).block, (ad234.add ((x5_1).toNat * 8)).off + 1, none⟩ = some (.string ((rd_T55 l0 x5_1).f1.f0)) ∧ w'.cell? ⟨(ad234.add ((x5_1).toNat * 8)).block, (ad234.add ((x5_1).toNat * 8)).off + 2, none⟩ = some (.string ((rd_T55 l0 x5_1).f1.f1)) ∧ w'.cell? ⟨(ad234.add ((x5_1).toNat * 8)).block, (ad234.add ((x5_1).toNat * 8)).off + 3, none⟩ = some (.int .i64 ((rd_T55 l0 x5_1).f1.f2)) ∧ w'.cell? ⟨(ad234.add ((x5_1).toNat * 8)).block, (ad234.add ((x5_1).toNat * 8)).off + 4, none⟩ = some (.int .i64 ((rd_T55 l0 x5_1).f1.f3)) ∧ w'.cell? ⟨(ad234.add ((x5_1).toNat * 8)).block, (ad234.add ((x5_1).toNat * 8)).off + 5, none⟩ = some (.int .i64 ((rd_T55 l0 x5_1).f1.f4)) ∧ w'.cell? ⟨(ad234.add ((x5_1).toNat * 8)).block, (ad234.add ((x5_1).toNat * 8)).off + 6, none⟩ = some (.int .i64 ((rd_T55 l0 x5_1).f1.f5)) ∧ w'.cell? ⟨(ad234.add ((x5_1).toNat * 8)).block, (ad234.add ((x5_1).toNat * 8)).off + 7, none⟩ = some (.int .i64 ((rd_T55 l0 x5_1).f1.f6))) (ds := []) #[false, false, false, false, false, false, false, false, false] (by kernel_rfl) rfl rfl ⟨(zb HB.out hw235_0), (zb HB.out hw235_1), (zb HB.out hw235_2), (zb HB.out hw235_3), (zb HB.out hw235_4), (zb HB.out hw235_5), (zb HB.out hw235_6), (zb HB.out hw235_7)⟩ (fun hHeld => ?_); refine with_tabW laws_heldEffectS.tab7 laws_heldEffectS.bits7 (fun HT_ HW_ => ?_)
           generalize wr.drew = w27 at HB hx235_0 hx235_1 hx235_2 hx235_3 hx235_4 hx235_5 hx235_6 hx235_7 hHeld ⊢
           refine zv (i := 0) (N := some 23) (v := ?_) (a' := ?_) #[true, false, false, false, false, false, false, false, false] rfl rfl (zu HT_.out (by kernel_rfl)) (fun _ _ _ h => h) (Or.inl ⟨by rfl, ?_⟩) ?_ ?_
           rotate_left
           ·intro w'
            go_simp
            with_reducible rfl
           rotate_left
           ·simp only [Act.put, List.setIfInBounds_toArray, List.set_cons_zero, List.set_cons_succ, zp, zr]
            rfl
           refine zv (i := 1) (N := some 24) (v := ?_) (a' := ?_) #[true, true, false, false, false, false, false, false, false] rfl rfl (zu HT_.out (by kernel_rfl)) (fun _ _ _ h => h) (Or.inl ⟨by rfl, ?_⟩) ?_ ?_
           rotate_left
           ·intro w'
            go_simp
            with_reducible rfl
           rotate_left
           ·simp only [Act.put, List.setIfInBounds_toArray, List.set_cons_zero, List.set_cons_succ, zp, zr]
            rfl
           refine zv (i := 2) (N := some 25) (v := ?_) (a' := ?_) #[true, true, true, false, false, false, false, false, false] rfl rfl (zu HT_.out (by kernel_rfl)) (fun _ _ _ h => h) (Or.inl ⟨by rfl, ?_⟩) ?_ ?_
           rotate_left
           ·intro w'
            go_simp
            with_reducible rfl
           rotate_left
           ·simp only [Act.put, List.setIfInBounds_toArray, List.set_cons_zero, List.set_cons_succ, zp, zr]
            rfl
           refine zv (i := 3) (N := some 26) (v := ?_) (a' := ?_) #[true, true, true, true, false, false, false, false, false] rfl rfl (zu HT_.out (by kernel_rfl)) (fun _ _ _ h => h) (Or.inl ⟨by rfl, ?_⟩) ?_ ?_
           rotate_left
           ·intro w'
            go_simp
            with_reducible rfl
           rotate_left
           ·simp only [Act.put, List.setIfInBounds_toArray, List.set_cons_zero, List.set_cons_succ, zp, zr]
            rfl
           refine zv (i := 4) (N := some 27) (v := ?_) (a' := ?_) #[true, true, true, true, true, false, false, false, false] rfl rfl (zu HT_.out (by kernel_rfl)) (fun _ _ _ h => h) (Or.inl ⟨by rfl, ?_⟩) ?_ ?_
           rotate_left
           ·intro w'
            go_simp
            with_reducible rfl
           rotate_left
           ·simp only [Act.put, List.setIfInBounds_toArray, List.set_cons_zero, List.set_cons_succ, zp, zr]
            rfl
           refine zv (i := 6) (N := some 29) (v := ?_) (a' := ?_) #[true, true, true, true, true, false, true, false, false] rfl rfl (zu HT_.out (by kernel_rfl)) (fun _ _ _ h => h) (Or.inl ⟨by rfl, ?_⟩) ?_ ?_
           rotate_left
           ·intro w'
            go_simp
            with_reducible rfl
           rotate_left
           ·simp only [Act.put, List.setIfInBounds_toArray, List.set_cons_zero, List.set_cons_succ, zp, zr]
            rfl
           refine take_ (i := 5) (N := some 28) (v := ?_) (a' := ?_) #[true, true, true, true, true, true, true, false, false] rfl rfl (take_ofW HT_.out HW_.out (by kernel_rfl)) (fun _ _ _ h => h) (Or.inl ⟨by rfl, ?_⟩) hHeld ?_ ?_
           rotate_left
           ·rintro w' ⟨s0, s1, s2, s3, s4, s5, s6, s7⟩
            go_simp
            with_reducible rfl
           rotate_left
           ·simp only [Act.put, List.setIfInBounds_toArray, List.set_cons_zero, List.set_cons_succ, zp, zr]
            rfl
           refine one_ (i := 7) (N := some 30) #[true, true, true, true, true, true, true, true, false] rfl rfl (one_of HT_.out (by kernel_rfl)) (by decide) (fun K hK => ?_)
           refine goes_ Tryd.func50 (by kernel_rfl) rfl #[.int .i64 (wrap64 (x1_1 + 1))] (by rfl) rfl rfl (by (try simp only [List.map_toArray, List.map_cons, List.map_nil]); first | done | rfl | (simp only [List.length_drop, List.length_take]; rfl)) ?_
           with_reducible refine (laws_markText.calls k1 (wrap64 (x1_1 + 1)) t236 _ A6.out).mono ?_
           rintro e w28 ⟨rfl, hb⟩
           refine ⟨_, rfl, ?_⟩
           have n0_ := Aside0.mk (zm (by repeat (first | (with_reducible first | exact HB.out | apply zf | apply zc | apply ze) | exact HB.out)) hb)
           clear HB
           have HB := n0_
           clear n0_
           (try clear hb)
           (try clear hb2)
           (try clear hk)
           (try clear hi)
           refine hK.out _ _ ⟨(zb HB.out hw235_0), (zb HB.out hw235_1), (zb HB.out hw235_2), (zb HB.out hw235_3), (zb HB.out hw235_4), (zb HB.out hw235_5), (zb HB.out hw235_6), (zb HB.out hw235_7)⟩ (fun hHeld => ?_)
           clear hK K
           refine norm_ (a' := ?_) ?_ ?_
           rotate_left
           ·show Act.put _ (some 30) _ = _
            simp only [Act.put, List.setIfInBounds_toArray, List.set_cons_zero, List.set_cons_succ, zp, zr]
            rfl
           refine zv (i := 8) (N := some 31) (v := ?_) (a' := ?_) #[true, true, true, true, true, true, true, true, true] rfl rfl (zu HT_.out (by kernel_rfl)) (fun _ _ _ h => h) (Or.inl ⟨by rfl, ?_⟩) ?_ ?_
           rotate_left
           ·intro w'
            go_simp
            with_reducible rfl
           rotate_left
           ·simp only [Act.put, List.setIfInBounds_toArray, List.set_cons_zero, List.set_cons_succ, zp, zr]
            rfl
           refine done_ (done_of HT_.out (by kernel_rfl)) ?_
           try go_wp2
           have n0_ := Aside0.mk (ze HB.out)
           clear HB
           have HB := n0_
           clear n0_
           have p237 : 0 ≤ (x5_1 : Int) := of_decide_eq_true (by first | (with_reducible assumption) | assumption)
           have q237 : x5_1 < (l0.length : Int) := of_decide_eq_true (by first | (with_reducible assumption) | assumption)
           obtain ⟨ad237, e237, hx237_0, hx237_1, hx237_2, hx237_3, hx237_4, hx237_5, hx237_6, hx237_7⟩ := at_T55 HR0.out x5_1 p237 q237
           have hw237_7 := hx237_7
           have hw237_6 := hx237_6
           have hw237_5 := hx237_5
           have hw237_4 := hx237_4
           have hw237_3 := hx237_3
           have hw237_2 := hx237_2
           have hw237_1 := hx237_1
           have hw237_0 := hx237_0
           obtain rfl : ad234 = ad237 := (by injection e237)
           replace hx237_0 := zb HB.out hx237_0
           replace hx237_1 := zb HB.out hx237_1
           replace hx237_2 := zb HB.out hx237_2
           replace hx237_3 := zb HB.out hx237_3
           replace hx237_4 := zb HB.out hx237_4
           replace hx237_5 := zb HB.out hx237_5
           replace hx237_6 := zb HB.out hx237_6
           replace hx237_7 := zb HB.out hx237_7
           replace p237 := eq_true p237
           replace q237 := eq_true q237
           refine start_ (n := 9) (S := fun w' => w'.cell? (ad234.add ((x5_1).toNat * 8)) = some (.bool ((rd_T55 l0 x5_1).f0)) ∧ w'.cell? ⟨(ad234.add ((x5_1).toNat * 8)).block, (ad234.add ((x5_1).toNat * 8)).off + 1, none⟩ = some (.string ((rd_T55 l0 x5_1).f1.f0)) ∧ w'.cell? ⟨(ad234.add ((x5_1).toNat * 8)).block, (ad234.add ((x5_1).toNat * 8)).off + 2, none⟩ = some (.string ((rd_T55 l0 x5_1).f1.f1)) ∧ w'.cell? ⟨(ad234.add ((x5_1).toNat * 8)).block, (ad234.add ((x5_1).toNat * 8)).off + 3, none⟩ = some (.int .i64 ((rd_T55 l0 x5_1).f1.f2)) ∧ w'.cell? ⟨(ad234.add ((x5_1).toNat * 8)).block, (ad234.add ((x5_1).toNat * 8)).off + 4, none⟩ = some (.int .i64 ((rd_T55 l0 x5_1).f1.f3)) ∧ w'.cell? ⟨(ad234.add ((x5_1).toNat * 8)).block, (ad234.add ((x5_1).toNat * 8)).off + 5, none⟩ = some (.int .i64 ((rd_T55 l0 x5_1).f1.f4)) ∧ w'.cell? ⟨(ad234.add ((x5_1).toNat * 8)).block, (ad234.add ((x5_1).toNat * 8)).off + 6, none⟩ = some (.int .i64 ((rd_T55 l0 x5_1).f1.f5)) ∧ w'.cell? ⟨(ad234.add ((x5_1).toNat * 8)).block, (ad234.add ((x5_1).toNat * 8)).off + 7, none⟩ = some (.int .i64 ((rd_T55 l0 x5_1).f1.f6))) (ds := []) #[false, false, false, false, false, false, false, false, false] (by kernel_rfl) rfl rfl ⟨(zb HB.out hw237_0), (zb HB.out hw237_1), (zb HB.out hw237_2), (zb HB.out hw237_3), (zb HB.out hw237_4), (zb HB.out hw237_5), (zb HB.out hw237_6), (zb HB.out hw237_7)⟩ (fun hHeld => ?_); refine with_tabW laws_heldEffectS.tab10 laws_heldEffectS.bits10 (fun HT_ HW_ => ?_)
           generalize w28.drew = w29 at HB hx237_0 hx237_1 hx237_2 hx237_3 hx237_4 hx237_5 hx237_6 hx237_7 hHeld ⊢
           refine zv (i := 0) (N := some 34) (v := ?_) (a' := ?_) #[true, false, false, false, false, false, false, false, false] rfl rfl (zu HT_.out (by kernel_rfl)) (fun _ _ _ h => h) (Or.inl ⟨by rfl, ?_⟩) ?_ ?_
           rotate_left
           ·intro w'
            go_simp
            with_reducible rfl
           rotate_left
           ·simp only [Act.put, List.setIfInBounds_toArray, List.set_cons_zero, List.set_cons_succ, zp, zr]
            rfl
           refine zv (i := 1) (N := some 35) (v := ?_) (a' := ?_) #[true, true, false, false, false, false, false, false, false] rfl rfl (zu HT_.out (by kernel_rfl)) (fun _ _ _ h => h) (Or.inl ⟨by rfl, ?_⟩) ?_ ?_
           rotate_left
           ·intro w'
            go_simp
            with_reducible rfl
           rotate_left
           ·simp only [Act.put, List.setIfInBounds_toArray, List.set_cons_zero, List.set_cons_succ, zp, zr]
            rfl
           refine zv (i := 2) (N := some 36) (v := ?_) (a' := ?_) #[true, true, true, false, false, false, false, false, false] rfl rfl (zu HT_.out (by kernel_rfl)) (fun _ _ _ h => h) (Or.inl ⟨by rfl, ?_⟩) ?_ ?_
           rotate_left
           ·intro w'
            go_simp
            with_reducible rfl
           rotate_left
           ·simp only [Act.put, List.setIfInBounds_toArray, List.set_cons_zero, List.set_cons_succ, zp, zr]
            rfl
           refine zv (i := 3) (N := some 37) (v := ?_) (a' := ?_) #[true, true, true, true, false, false, false, false, false] rfl rfl (zu HT_.out (by kernel_rfl)) (fun _ _ _ h => h) (Or.inl ⟨by rfl, ?_⟩) ?_ ?_
           rotate_left
           ·intro w'
            go_simp
            with_reducible rfl
           rotate_left
           ·simp only [Act.put, List.setIfInBounds_toArray, List.set_cons_zero, List.set_cons_succ, zp, zr]
            rfl
           refine zv (i := 4) (N := some 38) (v := ?_) (a' := ?_) #[true, true, true, true, true, false, false, false, false] rfl rfl (zu HT_.out (by kernel_rfl)) (fun _ _ _ h => h) (Or.inl ⟨by rfl, ?_⟩) ?_ ?_
           rotate_left
           ·intro w'
            go_simp
            with_reducible rfl
           rotate_left
           ·simp only [Act.put, List.setIfInBounds_toArray, List.set_cons_zero, List.set_cons_succ, zp, zr]
            rfl
           refine zv (i := 6) (N := some 40) (v := ?_) (a' := ?_) #[true, true, true, true, true, false, true, false, false] rfl rfl (zu HT_.out (by kernel_rfl)) (fun _ _ _ h => h) (Or.inl ⟨by rfl, ?_⟩) ?_ ?_
           rotate_left
           ·intro w'
            go_simp
            with_reducible rfl
           rotate_left
           ·simp only [Act.put, List.setIfInBounds_toArray, List.set_cons_zero, List.set_cons_succ, zp, zr]
            rfl
           refine take_ (i := 5) (N := some 39) (v := ?_) (a' := ?_) #[true, true, true, true, true, true, true, false, false] rfl rfl (take_ofW HT_.out HW_.out (by kernel_rfl)) (fun _ _ _ h => h) (Or.inl ⟨by rfl, ?_⟩) hHeld ?_ ?_
           rotate_left
           ·rintro w' ⟨s0, s1, s2, s3, s4, s5, s6, s7⟩
            go_simp
            with_reducible rfl
           rotate_left
           ·simp only [Act.put, List.setIfInBounds_toArray, List.set_cons_zero, List.set_cons_succ, zp, zr]
            rfl
           refine one_ (i := 7) (N := some 41) #[true, true, true, true, true, true, true, true, false] rfl rfl (one_of HT_.out (by kernel_rfl)) (by decide) (fun K hK => ?_)
           refine goes_ Tryd.func50 (by kernel_rfl) rfl #[.int .i64 (wrap64 ((wrap64 (x1_1 + 1)) + 1))] (by rfl) rfl rfl (by (try simp only [List.map_toArray, List.map_cons, List.map_nil]); first | done | rfl | (simp only [List.length_drop, List.length_take]; rfl)) ?_
           with_reducible refine (laws_markText.calls k1 (wrap64 ((wrap64 (x1_1 + 1)) + 1)) t238 _ A8.out).mono ?_
           rintro e w30 ⟨rfl, hb⟩
           refine ⟨_, rfl, ?_⟩
           have n0_ := Aside0.mk (zm (by repeat (first | (with_reducible first | exact HB.out | apply zf | apply zc | apply ze) | exact HB.out)) hb)
           clear HB
           have HB := n0_
           clear n0_
           (try clear hb)
           (try clear hb2)
           (try clear hk)
           (try clear hi)
           refine hK.out _ _ ⟨(zb HB.out hw237_0), (zb HB.out hw237_1), (zb HB.out hw237_2), (zb HB.out hw237_3), (zb HB.out hw237_4), (zb HB.out hw237_5), (zb HB.out hw237_6), (zb HB.out hw237_7)⟩ (fun hHeld => ?_)
           clear hK K
           refine norm_ (a' := ?_) ?_ ?_
           rotate_left
           ·show Act.put _ (some 41) _ = _
            simp only [Act.put, List.setIfInBounds_toArray, List.set_cons_zero, List.set_cons_succ, zp, zr]
            rfl
           refine zv (i := 8) (N := some 42) (v := ?_) (a' := ?_) #[true, true, true, true, true, true, true, true, true] rfl rfl (zu HT_.out (by kernel_rfl)) (fun _ _ _ h => h) (Or.inl ⟨by rfl, ?_⟩) ?_ ?_
           rotate_left
           ·intro w'
            go_simp
            with_reducible rfl
           rotate_left
           ·simp only [Act.put, List.setIfInBounds_toArray, List.set_cons_zero, List.set_cons_succ, zp, zr]
            rfl
           refine done_ (done_of HT_.out (by kernel_rfl)) ?_
           have p239 : 0 ≤ (x5_1 : Int) := of_decide_eq_true (by first | (with_reducible assumption) | assumption)
           have q239 : x5_1 < (l0.length : Int) := of_decide_eq_true (by first | (with_reducible assumption) | assumption)
           obtain ⟨ad239, e239, hx239_0, hx239_1, hx239_2, hx239_3, hx239_4, hx239_5, hx239_6, hx239_7⟩ := at_T55 HR0.out x5_1 p239 q239
           obtain rfl : ad234 = ad239 := (by injection e239)
           replace hx239_0 := zb HB.out hx239_0
           replace hx239_1 := zb HB.out hx239_1
           replace hx239_2 := zb HB.out hx239_2
           replace hx239_3 := zb HB.out hx239_3
           replace hx239_4 := zb HB.out hx239_4
           replace hx239_5 := zb HB.out hx239_5
           replace hx239_6 := zb HB.out hx239_6
           replace hx239_7 := zb HB.out hx239_7
           replace p239 := eq_true p239
           replace q239 := eq_true q239
           have p240 : 0 ≤ (x5_1 : Int) := of_decide_eq_true (by first | (with_reducible assumption) | assumption)
           have q240 : x5_1 < (l0.length : Int) := of_decide_eq_true (by first | (with_reducible assumption) | assumption)
           obtain ⟨ad240, e240, hx240_0, hx240_1, hx240_2, hx240_3, hx240_4, hx240_5, hx240_6, hx240_7⟩ := at_T55 HR0.out x5_1 p240 q240
           obtain rfl : ad234 = ad240 := (by injection e240)
           replace hx240_0 := zb HB.out hx240_0
           replace hx240_1 := zb HB.out hx240_1
           replace hx240_2 := zb HB.out hx240_2
           replace hx240_3 := zb HB.out hx240_3
           replace hx240_4 := zb HB.out hx240_4
           replace hx240_5 := zb HB.out hx240_5
           replace hx240_6 := zb HB.out hx240_6
           replace hx240_7 := zb HB.out hx240_7
           replace p240 := eq_true p240
           replace q240 := eq_true q240
           have p241 : 0 ≤ (x5_1 : Int) := of_decide_eq_true (by first | (with_reducible assumption) | assumption)
           have q241 : x5_1 < (l0.length : Int) := of_decide_eq_true (by first | (with_reducible assumption) | assumption)
           obtain ⟨ad241, e241, hx241_0, hx241_1, hx241_2, hx241_3, hx241_4, hx241_5, hx241_6, hx241_7⟩ := at_T55 HR0.out x5_1 p241 q241
           obtain rfl : ad234 = ad241 := (by injection e241)
           replace hx241_0 := zb HB.out hx241_0
           replace hx241_1 := zb HB.out hx241_1
           replace hx241_2 := zb HB.out hx241_2
           replace hx241_3 := zb HB.out hx241_3
           replace hx241_4 := zb HB.out hx241_4
           replace hx241_5 := zb HB.out hx241_5
           replace hx241_6 := zb HB.out hx241_6
           replace hx241_7 := zb HB.out hx241_7
           replace p241 := eq_true p241
           replace q241 := eq_true q241
           try go_wp2
           go_ret
           exact ⟨by first | rfl | (simp [errW_none, errW_some] <;> rfl) | (simp [*, errW_none, errW_some] <;> rfl), by repeat (first | (with_reducible first | exact HB.out | apply zf | apply zc | apply ze) | exact HB.out)⟩
         ·rw [if_neg c11] at H
          have c11b0 : (((rd_T55 l0 x5_1).f1.f3) == (wrap64 ((wrap64 ((wrap64 ((wrap64 (x1_1 + 1)) + 1)) + 1)) + 1))) = false := beq_eq_false_iff_ne.mpr c11
          have c11b1 : (((rd_T55 l0 x5_1).f1.f3) != (wrap64 ((wrap64 ((wrap64 ((wrap64 (x1_1 + 1)) + 1)) + 1)) + 1))) = true := bne_iff_ne.mpr c11
          obtain rfl := Option.some.inj H
          have p234 : 0 ≤ (x5_1 : Int) := of_decide_eq_true (by first | (with_reducible assumption) | assumption)
          have q234 : x5_1 < (l0.length : Int) := of_decide_eq_true (by first | (with_reducible assumption) | assumption)
          obtain ⟨ad234, e234, hx234_0, hx234_1, hx234_2, hx234_3, hx234_4, hx234_5, hx234_6, hx234_7⟩ := at_T55 HR0.out x5_1 p234 q234
          cases e234
          replace hx234_0 := zb HB.out hx234_0
          replace hx234_1 := zb HB.out hx234_1
          replace hx234_2 := zb HB.out hx234_2
          replace hx234_3 := zb HB.out hx234_3
          replace hx234_4 := zb HB.out hx234_4
          replace hx234_5 := zb HB.out hx234_5
          replace hx234_6 := zb HB.out hx234_6
          replace hx234_7 := zb HB.out hx234_7
          replace p234 := eq_true p234
          replace q234 := eq_true q234
          try go_wp2
          have n0_ := Aside0.mk (ze HB.out)
          clear HB
          have HB := n0_
          clear n0_
          have p235 : 0 ≤ (x5_1 : Int) := of_decide_eq_true (by first | (with_reducible assumption) | assumption)
          have q235 : x5_1 < (l0.length : Int) := of_decide_eq_true (by first | (with_reducible assumption) | assumption)
          obtain ⟨ad235, e235, hx235_0, hx235_1, hx235_2, hx235_3, hx235_4, hx235_5, hx235_6, hx235_7⟩ := at_T55 HR0.out x5_1 p235 q235
          have hw235_7 := hx235_7
          have hw235_6 := hx235_6
          have hw235_5 := hx235_5
          have hw235_4 := hx235_4
          have hw235_3 := hx235_3
          have hw235_2 := hx235_2
          have hw235_1 := hx235_1
          have hw235_0 := hx235_0
          obtain rfl : ad234 = ad235 := (by injection e235)
          replace hx235_0 := zb HB.out hx235_0
          replace hx235_1 := zb HB.out hx235_1
          replace hx235_2 := zb HB.out hx235_2
          replace hx235_3 := zb HB.out hx235_3
          replace hx235_4 := zb HB.out hx235_4
          replace hx235_5 := zb HB.out hx235_5
          replace hx235_6 := zb HB.out hx235_6
          replace hx235_7 := zb HB.out hx235_7
          replace p235 := eq_true p235
          replace q235 := eq_true q235
          refine start_ (n := 9) (S := fun w' => w'.cell? (ad234.add ((x5_1).toNat * 8)) = some (.bool ((rd_T55 l0 x5_1).f0)) ∧ w'.cell? ⟨(ad234.add ((x5_1).toNat * 8)).block, (ad234.add ((x5_1).toNat * 8)).off + 1, none⟩ = some (.string ((rd_T55 l0 x5_1).f1.f0)) ∧ w'.cell? ⟨(ad234.add ((x5_1).toNat * 8)).block, (ad234.add ((x5_1).toNat * 8)).off + 2, none⟩ = some (.string ((rd_T55 l0 x5_1).f1.f1)) ∧ w'.cell? ⟨(ad234.add ((x5_1).toNat * 8)).block, (ad234.add ((x5_1).toNat * 8)).off + 3, none⟩ = some (.int .i64 ((rd_T55 l0 x5_1).f1.f2)) ∧ w'.cell? ⟨(ad234.add ((x5_1).toNat * 8)).block, (ad234.add ((x5_1).toNat * 8)).off + 4, none⟩ = some (.int .i64 ((rd_T55 l0 x5_1).f1.f3)) ∧ w'.cell? ⟨(ad234.add ((x5_1).toNat * 8)).block, (ad234.add ((x5_1).toNat * 8)).off + 5, none⟩ = some (.int .i64 ((rd_T55 l0 x5_1).f1.f4)) ∧ w'.cell? ⟨(ad234.add ((x5_1).toNat * 8)).block, (ad234.add ((x5_1).toNat * 8)).off + 6, none⟩ = some (.int .i64 ((rd_T55 l0 x5_1).f1.f5)) ∧ w'.cell? ⟨(ad234.add ((x5_1).toNat * 8)).block, (ad234.add ((x5_1).toNat * 8)).off + 7, none⟩ = some (.int .i64 ((rd_T55 l0 x5_1).f1.f6))) (ds := []) #[false, false, false, false, false, false, false, false, false] (by kernel_rfl) rfl rfl ⟨(zb HB.out hw235_0), (zb HB.out hw235_1), (zb HB.out hw235_2), (zb HB.out hw235_3), (zb HB.out hw235_4), (zb HB.out hw235_5), (zb HB.out hw235_6), (zb HB.out hw235_7)⟩ (fun hHeld => ?_); refine with_tabW laws_heldEffectS.tab7 laws_heldEffectS.bits7 (fun HT_ HW_ => ?_)
          generalize wr.drew = w31 at HB hx235_0 hx235_1 hx235_2 hx235_3 hx235_4 hx235_5 hx235_6 hx235_7 hHeld ⊢
          refine zv (i := 0) (N := some 23) (v := ?_) (a' := ?_) #[true, false, false, false, false, false, false, false, false] rfl rfl (zu HT_.out (by kernel_rfl)) (fun _ _ _ h => h) (Or.inl ⟨by rfl, ?_⟩) ?_ ?_
          rotate_left
          ·intro w'
           go_simp
           with_reducible rfl
          rotate_left
          ·simp only [Act.put, List.setIfInBounds_toArray, List.set_cons_zero, List.set_cons_succ, zp, zr]
           rfl
          refine zv (i := 1) (N := some 24) (v := ?_) (a' := ?_) #[true, true, false, false, false, false, false, false, false] rfl rfl (zu HT_.out (by kernel_rfl)) (fun _ _ _ h => h) (Or.inl ⟨by rfl, ?_⟩) ?_ ?_
          rotate_left
          ·intro w'
           go_simp
           with_reducible rfl
          rotate_left
          ·simp only [Act.put, List.setIfInBounds_toArray, List.set_cons_zero, List.set_cons_succ, zp, zr]
           rfl
          refine zv (i := 2) (N := some 25) (v := ?_) (a' := ?_) #[true, true, true, false, false, false, false, false, false] rfl rfl (zu HT_.out (by kernel_rfl)) (fun _ _ _ h => h) (Or.inl ⟨by rfl, ?_⟩) ?_ ?_
          rotate_left
          ·intro w'
           go_simp
           with_reducible rfl
          rotate_left
          ·simp only [Act.put, List.setIfInBounds_toArray, List.set_cons_zero, List.set_cons_succ, zp, zr]
           rfl
          refine zv (i := 3) (N := some 26) (v := ?_) (a' := ?_) #[true, true, true, true, false, false, false, false, false] rfl rfl (zu HT_.out (by kernel_rfl)) (fun _ _ _ h => h) (Or.inl ⟨by rfl, ?_⟩) ?_ ?_
          rotate_left
          ·intro w'
           go_simp
           with_reducible rfl
          rotate_left
          ·simp only [Act.put, List.setIfInBounds_toArray, List.set_cons_zero, List.set_cons_succ, zp, zr]
           rfl
          refine zv (i := 4) (N := some 27) (v := ?_) (a' := ?_) #[true, true, true, true, true, false, false, false, false] rfl rfl (zu HT_.out (by kernel_rfl)) (fun _ _ _ h => h) (Or.inl ⟨by rfl, ?_⟩) ?_ ?_
          rotate_left
          ·intro w'
           go_simp
           with_reducible rfl
          rotate_left
          ·simp only [Act.put, List.setIfInBounds_toArray, List.set_cons_zero, List.set_cons_succ, zp, zr]
           rfl
          refine zv (i := 6) (N := some 29) (v := ?_) (a' := ?_) #[true, true, true, true, true, false, true, false, false] rfl rfl (zu HT_.out (by kernel_rfl)) (fun _ _ _ h => h) (Or.inl ⟨by rfl, ?_⟩) ?_ ?_
          rotate_left
          ·intro w'
           go_simp
           with_reducible rfl
          rotate_left
          ·simp only [Act.put, List.setIfInBounds_toArray, List.set_cons_zero, List.set_cons_succ, zp, zr]
           rfl
          refine take_ (i := 5) (N := some 28) (v := ?_) (a' := ?_) #[true, true, true, true, true, true, true, false, false] rfl rfl (take_ofW HT_.out HW_.out (by kernel_rfl)) (fun _ _ _ h => h) (Or.inl ⟨by rfl, ?_⟩) hHeld ?_ ?_
          rotate_left
          ·rintro w' ⟨s0, s1, s2, s3, s4, s5, s6, s7⟩
           go_simp
           with_reducible rfl
          rotate_left
          ·simp only [Act.put, List.setIfInBounds_toArray, List.set_cons_zero, List.set_cons_succ, zp, zr]
           rfl
          refine one_ (i := 7) (N := some 30) #[true, true, true, true, true, true, true, true, false] rfl rfl (one_of HT_.out (by kernel_rfl)) (by decide) (fun K hK => ?_)
          refine goes_ Tryd.func50 (by kernel_rfl) rfl #[.int .i64 (wrap64 (x1_1 + 1))] (by rfl) rfl rfl (by (try simp only [List.map_toArray, List.map_cons, List.map_nil]); first | done | rfl | (simp only [List.length_drop, List.length_take]; rfl)) ?_
          with_reducible refine (laws_markText.calls k1 (wrap64 (x1_1 + 1)) t236 _ A6.out).mono ?_
          rintro e w32 ⟨rfl, hb⟩
          refine ⟨_, rfl, ?_⟩
          have n0_ := Aside0.mk (zm (by repeat (first | (with_reducible first | exact HB.out | apply zf | apply zc | apply ze) | exact HB.out)) hb)
          clear HB
          have HB := n0_
          clear n0_
          (try clear hb)
          (try clear hb2)
          (try clear hk)
          (try clear hi)
          refine hK.out _ _ ⟨(zb HB.out hw235_0), (zb HB.out hw235_1), (zb HB.out hw235_2), (zb HB.out hw235_3), (zb HB.out hw235_4), (zb HB.out hw235_5), (zb HB.out hw235_6), (zb HB.out hw235_7)⟩ (fun hHeld => ?_)
          clear hK K
          refine norm_ (a' := ?_) ?_ ?_
          rotate_left
          ·show Act.put _ (some 30) _ = _
           simp only [Act.put, List.setIfInBounds_toArray, List.set_cons_zero, List.set_cons_succ, zp, zr]
           rfl
          refine zv (i := 8) (N := some 31) (v := ?_) (a' := ?_) #[true, true, true, true, true, true, true, true, true] rfl rfl (zu HT_.out (by kernel_rfl)) (fun _ _ _ h => h) (Or.inl ⟨by rfl, ?_⟩) ?_ ?_
          rotate_left
          ·intro w'
           go_simp
           with_reducible rfl
          rotate_left
          ·simp only [Act.put, List.setIfInBounds_toArray, List.set_cons_zero, List.set_cons_succ, zp, zr]
           rfl
          refine done_ (done_of HT_.out (by kernel_rfl)) ?_
          try go_wp2
          have n0_ := Aside0.mk (ze HB.out)
          clear HB
          have HB := n0_
          clear n0_
          have p237 : 0 ≤ (x5_1 : Int) := of_decide_eq_true (by first | (with_reducible assumption) | assumption)
          have q237 : x5_1 < (l0.length : Int) := of_decide_eq_true (by first | (with_reducible assumption) | assumption)
          obtain ⟨ad237, e237, hx237_0, hx237_1, hx237_2, hx237_3, hx237_4, hx237_5, hx237_6, hx237_7⟩ := at_T55 HR0.out x5_1 p237 q237
          have hw237_7 := hx237_7
          have hw237_6 := hx237_6
          have hw237_5 := hx237_5
          have hw237_4 := hx237_4
          have hw237_3 := hx237_3
          have hw237_2 := hx237_2
          have hw237_1 := hx237_1
          have hw237_0 := hx237_0
          obtain rfl : ad234 = ad237 := (by injection e237)
          replace hx237_0 := zb HB.out hx237_0
          replace hx237_1 := zb HB.out hx237_1
          replace hx237_2 := zb HB.out hx237_2
          replace hx237_3 := zb HB.out hx237_3
          replace hx237_4 := zb HB.out hx237_4
          replace hx237_5 := zb HB.out hx237_5
          replace hx237_6 := zb HB.out hx237_6
          replace hx237_7 := zb HB.out hx237_7
          replace p237 := eq_true p237
          replace q237 := eq_true q237
          refine start_ (n := 9) (S := fun w' => w'.cell? (ad234.add ((x5_1).toNat * 8)) = some (.bool ((rd_T55 l0 x5_1).f0)) ∧ w'.cell? ⟨(ad234.add ((x5_1).toNat * 8)).block, (ad234.add ((x5_1).toNat * 8)).off + 1, none⟩ = some (.string ((rd_T55 l0 x5_1).f1.f0)) ∧ w'.cell? ⟨(ad234.add ((x5_1).toNat * 8)).block, (ad234.add ((x5_1).toNat * 8)).off + 2, none⟩ = some (.string ((rd_T55 l0 x5_1).f1.f1)) ∧ w'.cell? ⟨(ad234.add ((x5_1).toNat * 8)).block, (ad234.add ((x5_1).toNat * 8)).off + 3, none⟩ = some (.int .i64 ((rd_T55 l0 x5_1).f1.f2)) ∧ w'.cell? ⟨(ad234.add ((x5_1).toNat * 8)).block, (ad234.add ((x5_1).toNat * 8)).off + 4, none⟩ = some (.int .i64 ((rd_T55 l0 x5_1).f1.f3)) ∧ w'.cell? ⟨(ad234.add ((x5_1).toNat * 8)).block, (ad234.add ((x5_1).toNat * 8)).off + 5, none⟩ = some (.int .i64 ((rd_T55 l0 x5_1).f1.f4)) ∧ w'.cell? ⟨(ad234.add ((x5_1).toNat * 8)).block, (ad234.add ((x5_1).toNat * 8)).off + 6, none⟩ = some (.int .i64 ((rd_T55 l0 x5_1).f1.f5)) ∧ w'.cell? ⟨(ad234.add ((x5_1).toNat * 8)).block, (ad234.add ((x5_1).toNat * 8)).off + 7, none⟩ = some (.int .i64 ((rd_T55 l0 x5_1).f1.f6))) (ds := []) #[false, false, false, false, false, false, false, false, false] (by kernel_rfl) rfl rfl ⟨(zb HB.out hw237_0), (zb HB.out hw237_1), (zb HB.out hw237_2), (zb HB.out hw237_3), (zb HB.out hw237_4), (zb HB.out hw237_5), (zb HB.out hw237_6), (zb HB.out hw237_7)⟩ (fun hHeld => ?_); refine with_tabW laws_heldEffectS.tab10 laws_heldEffectS.bits10 (fun HT_ HW_ => ?_)
          generalize w32.drew = w33 at HB hx237_0 hx237_1 hx237_2 hx237_3 hx237_4 hx237_5 hx237_6 hx237_7 hHeld ⊢
          refine zv (i := 0) (N := some 34) (v := ?_) (a' := ?_) #[true, false, false, false, false, false, false, false, false] rfl rfl (zu HT_.out (by kernel_rfl)) (fun _ _ _ h => h) (Or.inl ⟨by rfl, ?_⟩) ?_ ?_
          rotate_left
          ·intro w'
           go_simp
           with_reducible rfl
          rotate_left
          ·simp only [Act.put, List.setIfInBounds_toArray, List.set_cons_zero, List.set_cons_succ, zp, zr]
           rfl
          refine zv (i := 1) (N := some 35) (v := ?_) (a' := ?_) #[true, true, false, false, false, false, false, false, false] rfl rfl (zu HT_.out (by kernel_rfl)) (fun _ _ _ h => h) (Or.inl ⟨by rfl, ?_⟩) ?_ ?_
          rotate_left
          ·intro w'
           go_simp
           with_reducible rfl
          rotate_left
          ·simp only [Act.put, List.setIfInBounds_toArray, List.set_cons_zero, List.set_cons_succ, zp, zr]
           rfl
          refine zv (i := 2) (N := some 36) (v := ?_) (a' := ?_) #[true, true, true, false, false, false, false, false, false] rfl rfl (zu HT_.out (by kernel_rfl)) (fun _ _ _ h => h) (Or.inl ⟨by rfl, ?_⟩) ?_ ?_
          rotate_left
          ·intro w'
           go_simp
           with_reducible rfl
          rotate_left
          ·simp only [Act.put, List.setIfInBounds_toArray, List.set_cons_zero, List.set_cons_succ, zp, zr]
           rfl
          refine zv (i := 3) (N := some 37) (v := ?_) (a' := ?_) #[true, true, true, true, false, false, false, false, false] rfl rfl (zu HT_.out (by kernel_rfl)) (fun _ _ _ h => h) (Or.inl ⟨by rfl, ?_⟩) ?_ ?_
          rotate_left
          ·intro w'
           go_simp
           with_reducible rfl
          rotate_left
          ·simp only [Act.put, List.setIfInBounds_toArray, List.set_cons_zero, List.set_cons_succ, zp, zr]
           rfl
          refine zv (i := 4) (N := some 38) (v := ?_) (a' := ?_) #[true, true, true, true, true, false, false, false, false] rfl rfl (zu HT_.out (by kernel_rfl)) (fun _ _ _ h => h) (Or.inl ⟨by rfl, ?_⟩) ?_ ?_
          rotate_left
          ·intro w'
           go_simp
           with_reducible rfl
          rotate_left
          ·simp only [Act.put, List.setIfInBounds_toArray, List.set_cons_zero, List.set_cons_succ, zp, zr]
           rfl
          refine zv (i := 6) (N := some 40) (v := ?_) (a' := ?_) #[true, true, true, true, true, false, true, false, false] rfl rfl (zu HT_.out (by kernel_rfl)) (fun _ _ _ h => h) (Or.inl ⟨by rfl, ?_⟩) ?_ ?_
          rotate_left
          ·intro w'
           go_simp
           with_reducible rfl
          rotate_left
          ·simp only [Act.put, List.setIfInBounds_toArray, List.set_cons_zero, List.set_cons_succ, zp, zr]
           rfl
          refine take_ (i := 5) (N := some 39) (v := ?_) (a' := ?_) #[true, true, true, true, true, true, true, false, false] rfl rfl (take_ofW HT_.out HW_.out (by kernel_rfl)) (fun _ _ _ h => h) (Or.inl ⟨by rfl, ?_⟩) hHeld ?_ ?_
          rotate_left
          ·rintro w' ⟨s0, s1, s2, s3, s4, s5, s6, s7⟩
           go_simp
           with_reducible rfl
          rotate_left
          ·simp only [Act.put, List.setIfInBounds_toArray, List.set_cons_zero, List.set_cons_succ, zp, zr]
           rfl
          refine one_ (i := 7) (N := some 41) #[true, true, true, true, true, true, true, true, false] rfl rfl (one_of HT_.out (by kernel_rfl)) (by decide) (fun K hK => ?_)
          refine goes_ Tryd.func50 (by kernel_rfl) rfl #[.int .i64 (wrap64 ((wrap64 (x1_1 + 1)) + 1))] (by rfl) rfl rfl (by (try simp only [List.map_toArray, List.map_cons, List.map_nil]); first | done | rfl | (simp only [List.length_drop, List.length_take]; rfl)) ?_
          with_reducible refine (laws_markText.calls k1 (wrap64 ((wrap64 (x1_1 + 1)) + 1)) t238 _ A8.out).mono ?_
          rintro e w34 ⟨rfl, hb⟩
          refine ⟨_, rfl, ?_⟩
          have n0_ := Aside0.mk (zm (by repeat (first | (with_reducible first | exact HB.out | apply zf | apply zc | apply ze) | exact HB.out)) hb)
          clear HB
          have HB := n0_
          clear n0_
          (try clear hb)
          (try clear hb2)
          (try clear hk)
          (try clear hi)
          refine hK.out _ _ ⟨(zb HB.out hw237_0), (zb HB.out hw237_1), (zb HB.out hw237_2), (zb HB.out hw237_3), (zb HB.out hw237_4), (zb HB.out hw237_5), (zb HB.out hw237_6), (zb HB.out hw237_7)⟩ (fun hHeld => ?_)
          clear hK K
          refine norm_ (a' := ?_) ?_ ?_
          rotate_left
          ·show Act.put _ (some 41) _ = _
           simp only [Act.put, List.setIfInBounds_toArray, List.set_cons_zero, List.set_cons_succ, zp, zr]
           rfl
          refine zv (i := 8) (N := some 42) (v := ?_) (a' := ?_) #[true, true, true, true, true, true, true, true, true] rfl rfl (zu HT_.out (by kernel_rfl)) (fun _ _ _ h => h) (Or.inl ⟨by rfl, ?_⟩) ?_ ?_
          rotate_left
          ·intro w'
           go_simp
           with_reducible rfl
          rotate_left
          ·simp only [Act.put, List.setIfInBounds_toArray, List.set_cons_zero, List.set_cons_succ, zp, zr]
           rfl
          refine done_ (done_of HT_.out (by kernel_rfl)) ?_
          have p239 : 0 ≤ (x5_1 : Int) := of_decide_eq_true (by first | (with_reducible assumption) | assumption)
          have q239 : x5_1 < (l0.length : Int) := of_decide_eq_true (by first | (with_reducible assumption) | assumption)
          obtain ⟨ad239, e239, hx239_0, hx239_1, hx239_2, hx239_3, hx239_4, hx239_5, hx239_6, hx239_7⟩ := at_T55 HR0.out x5_1 p239 q239
          obtain rfl : ad234 = ad239 := (by injection e239)
          replace hx239_0 := zb HB.out hx239_0
          replace hx239_1 := zb HB.out hx239_1
          replace hx239_2 := zb HB.out hx239_2
          replace hx239_3 := zb HB.out hx239_3
          replace hx239_4 := zb HB.out hx239_4
          replace hx239_5 := zb HB.out hx239_5
          replace hx239_6 := zb HB.out hx239_6
          replace hx239_7 := zb HB.out hx239_7
          replace p239 := eq_true p239
          replace q239 := eq_true q239
          have p240 : 0 ≤ (x5_1 : Int) := of_decide_eq_true (by first | (with_reducible assumption) | assumption)
          have q240 : x5_1 < (l0.length : Int) := of_decide_eq_true (by first | (with_reducible assumption) | assumption)
          obtain ⟨ad240, e240, hx240_0, hx240_1, hx240_2, hx240_3, hx240_4, hx240_5, hx240_6, hx240_7⟩ := at_T55 HR0.out x5_1 p240 q240
          obtain rfl : ad234 = ad240 := (by injection e240)
          replace hx240_0 := zb HB.out hx240_0
          replace hx240_1 := zb HB.out hx240_1
          replace hx240_2 := zb HB.out hx240_2
          replace hx240_3 := zb HB.out hx240_3
          replace hx240_4 := zb HB.out hx240_4
          replace hx240_5 := zb HB.out hx240_5
          replace hx240_6 := zb HB.out hx240_6
          replace hx240_7 := zb HB.out hx240_7
          replace p240 := eq_true p240
          replace q240 := eq_true q240
          try go_wp2
          go_ret
          exact ⟨by first | rfl | (simp [errW_none, errW_some] <;> rfl) | (simp [*, errW_none, errW_some] <;> rfl), by repeat (first | (with_reducible first | exact HB.out | apply zf | apply zc | apply ze) | exact HB.out)⟩
        ·rw [if_neg c10] at H
         have c10b0 : (((rd_T55 l0 x5_1).f1.f2) == (wrap64 ((wrap64 ((wrap64 (x1_1 + 1)) + 1)) + 1))) = false := beq_eq_false_iff_ne.mpr c10
         have c10b1 : (((rd_T55 l0 x5_1).f1.f2) != (wrap64 ((wrap64 ((wrap64 (x1_1 + 1)) + 1)) + 1))) = true := bne_iff_ne.mpr c10
         obtain rfl := Option.some.inj H
         have p234 : 0 ≤ (x5_1 : Int) := of_decide_eq_true (by first | (with_reducible assumption) | assumption)
         have q234 : x5_1 < (l0.length : Int) := of_decide_eq_true (by first | (with_reducible assumption) | assumption)
         obtain ⟨ad234, e234, hx234_0, hx234_1, hx234_2, hx234_3, hx234_4, hx234_5, hx234_6, hx234_7⟩ := at_T55 HR0.out x5_1 p234 q234
         cases e234
         replace hx234_0 := zb HB.out hx234_0
         replace hx234_1 := zb HB.out hx234_1
         replace hx234_2 := zb HB.out hx234_2
         replace hx234_3 := zb HB.out hx234_3
         replace hx234_4 := zb HB.out hx234_4
         replace hx234_5 := zb HB.out hx234_5
         replace hx234_6 := zb HB.out hx234_6
         replace hx234_7 := zb HB.out hx234_7
         replace p234 := eq_true p234
         replace q234 := eq_true q234
         try go_wp2
         have n0_ := Aside0.mk (ze HB.out)
         clear HB
         have HB := n0_
         clear n0_
         have p235 : 0 ≤ (x5_1 : Int) := of_decide_eq_true (by first | (with_reducible assumption) | assumption)
         have q235 : x5_1 < (l0.length : Int) := of_decide_eq_true (by first | (with_reducible assumption) | assumption)
         obtain ⟨ad235, e235, hx235_0, hx235_1, hx235_2, hx235_3, hx235_4, hx235_5, hx235_6, hx235_7⟩ := at_T55 HR0.out x5_1 p235 q235
         have hw235_7 := hx235_7
         have hw235_6 := hx235_6
         have hw235_5 := hx235_5
         have hw235_4 := hx235_4
         have hw235_3 := hx235_3
         have hw235_2 := hx235_2
         have hw235_1 := hx235_1
         have hw235_0 := hx235_0
         obtain rfl : ad234 = ad235 := (by injection e235)
         replace hx235_0 := zb HB.out hx235_0
         replace hx235_1 := zb HB.out hx235_1
         replace hx235_2 := zb HB.out hx235_2
         replace hx235_3 := zb HB.out hx235_3
         replace hx235_4 := zb HB.out hx235_4
         replace hx235_5 := zb HB.out hx235_5
         replace hx235_6 := zb HB.out hx235_6
         replace hx235_7 := zb HB.out hx235_7
         replace p235 := eq_true p235
         replace q235 := eq_true q235
         refine start_ (n := 9) (S := fun w' => w'.cell? (ad234.add ((x5_1).toNat * 8)) = some (.bool ((rd_T55 l0 x5_1).f0)) ∧ w'.cell? ⟨(ad234.add ((x5_1).toNat * 8)).block, (ad234.add ((x5_1).toNat * 8)).off + 1, none⟩ = some (.string ((rd_T55 l0 x5_1).f1.f0)) ∧ w'.cell? ⟨(ad234.add ((x5_1).toNat * 8)).block, (ad234.add ((x5_1).toNat * 8)).off + 2, none⟩ = some (.string ((rd_T55 l0 x5_1).f1.f1)) ∧ w'.cell? ⟨(ad234.add ((x5_1).toNat * 8)).block, (ad234.add ((x5_1).toNat * 8)).off + 3, none⟩ = some (.int .i64 ((rd_T55 l0 x5_1).f1.f2)) ∧ w'.cell? ⟨(ad234.add ((x5_1).toNat * 8)).block, (ad234.add ((x5_1).toNat * 8)).off + 4, none⟩ = some (.int .i64 ((rd_T55 l0 x5_1).f1.f3)) ∧ w'.cell? ⟨(ad234.add ((x5_1).toNat * 8)).block, (ad234.add ((x5_1).toNat * 8)).off + 5, none⟩ = some (.int .i64 ((rd_T55 l0 x5_1).f1.f4)) ∧ w'.cell? ⟨(ad234.add ((x5_1).toNat * 8)).block, (ad234.add ((x5_1).toNat * 8)).off + 6, none⟩ = some (.int .i64 ((rd_T55 l0 x5_1).f1.f5)) ∧ w'.cell? ⟨(ad234.add ((x5_1).toNat * 8)).block, (ad234.add ((x5_1).toNat * 8)).off + 7, none⟩ = some (.int .i64 ((rd_T55 l0 x5_1).f1.f6))) (ds := []) #[false, false, false, false, false, false, false, false, false] (by kernel_rfl) rfl rfl ⟨(zb HB.out hw235_0), (zb HB.out hw235_1), (zb HB.out hw235_2), (zb HB.out hw235_3), (zb HB.out hw235_4), (zb HB.out hw235_5), (zb HB.out hw235_6), (zb HB.out hw235_7)⟩ (fun hHeld => ?_); refine with_tabW laws_heldEffectS.tab7 laws_heldEffectS.bits7 (fun HT_ HW_ => ?_)
         generalize wr.drew = w35 at HB hx235_0 hx235_1 hx235_2 hx235_3 hx235_4 hx235_5 hx235_6 hx235_7 hHeld ⊢
         refine zv (i := 0) (N := some 23) (v := ?_) (a' := ?_) #[true, false, false, false, false, false, false, false, false] rfl rfl (zu HT_.out (by kernel_rfl)) (fun _ _ _ h => h) (Or.inl ⟨by rfl, ?_⟩) ?_ ?_
         rotate_left
         ·intro w'
          go_simp
          with_reducible rfl
         rotate_left
         ·simp only [Act.put, List.setIfInBounds_toArray, List.set_cons_zero, List.set_cons_succ, zp, zr]
          rfl
         refine zv (i := 1) (N := some 24) (v := ?_) (a' := ?_) #[true, true, false, false, false, false, false, false, false] rfl rfl (zu HT_.out (by kernel_rfl)) (fun _ _ _ h => h) (Or.inl ⟨by rfl, ?_⟩) ?_ ?_
         rotate_left
         ·intro w'
          go_simp
          with_reducible rfl
         rotate_left
         ·simp only [Act.put, List.setIfInBounds_toArray, List.set_cons_zero, List.set_cons_succ, zp, zr]
          rfl
         refine zv (i := 2) (N := some 25) (v := ?_) (a' := ?_) #[true, true, true, false, false, false, false, false, false] rfl rfl (zu HT_.out (by kernel_rfl)) (fun _ _ _ h => h) (Or.inl ⟨by rfl, ?_⟩) ?_ ?_
         rotate_left
         ·intro w'
          go_simp
          with_reducible rfl
         rotate_left
         ·simp only [Act.put, List.setIfInBounds_toArray, List.set_cons_zero, List.set_cons_succ, zp, zr]
          rfl
         refine zv (i := 3) (N := some 26) (v := ?_) (a' := ?_) #[true, true, true, true, false, false, false, false, false] rfl rfl (zu HT_.out (by kernel_rfl)) (fun _ _ _ h => h) (Or.inl ⟨by rfl, ?_⟩) ?_ ?_
         rotate_left
         ·intro w'
          go_simp
          with_reducible rfl
         rotate_left
         ·simp only [Act.put, List.setIfInBounds_toArray, List.set_cons_zero, List.set_cons_succ, zp, zr]
          rfl
         refine zv (i := 4) (N := some 27) (v := ?_) (a' := ?_) #[true, true, true, true, true, false, false, false, false] rfl rfl (zu HT_.out (by kernel_rfl)) (fun _ _ _ h => h) (Or.inl ⟨by rfl, ?_⟩) ?_ ?_
         rotate_left
         ·intro w'
          go_simp
          with_reducible rfl
         rotate_left
         ·simp only [Act.put, List.setIfInBounds_toArray, List.set_cons_zero, List.set_cons_succ, zp, zr]
          rfl
         refine zv (i := 6) (N := some 29) (v := ?_) (a' := ?_) #[true, true, true, true, true, false, true, false, false] rfl rfl (zu HT_.out (by kernel_rfl)) (fun _ _ _ h => h) (Or.inl ⟨by rfl, ?_⟩) ?_ ?_
         rotate_left
         ·intro w'
          go_simp
          with_reducible rfl
         rotate_left
         ·simp only [Act.put, List.setIfInBounds_toArray, List.set_cons_zero, List.set_cons_succ, zp, zr]
          rfl
         refine take_ (i := 5) (N := some 28) (v := ?_) (a' := ?_) #[true, true, true, true, true, true, true, false, false] rfl rfl (take_ofW HT_.out HW_.out (by kernel_rfl)) (fun _ _ _ h => h) (Or.inl ⟨by rfl, ?_⟩) hHeld ?_ ?_
         rotate_left
         ·rintro w' ⟨s0, s1, s2, s3, s4, s5, s6, s7⟩
          go_simp
          with_reducible rfl
         rotate_left
         ·simp only [Act.put, List.setIfInBounds_toArray, List.set_cons_zero, List.set_cons_succ, zp, zr]
          rfl
         refine one_ (i := 7) (N := some 30) #[true, true, true, true, true, true, true, true, false] rfl rfl (one_of HT_.out (by kernel_rfl)) (by decide) (fun K hK => ?_)
         refine goes_ Tryd.func50 (by kernel_rfl) rfl #[.int .i64 (wrap64 (x1_1 + 1))] (by rfl) rfl rfl (by (try simp only [List.map_toArray, List.map_cons, List.map_nil]); first | done | rfl | (simp only [List.length_drop, List.length_take]; rfl)) ?_
         with_reducible refine (laws_markText.calls k1 (wrap64 (x1_1 + 1)) t236 _ A6.out).mono ?_
         rintro e w36 ⟨rfl, hb⟩
         refine ⟨_, rfl, ?_⟩
         have n0_ := Aside0.mk (zm (by repeat (first | (with_reducible first | exact HB.out | apply zf | apply zc | apply ze) | exact HB.out)) hb)
         clear HB
         have HB := n0_
         clear n0_
         (try clear hb)
         (try clear hb2)
         (try clear hk)
         (try clear hi)
         refine hK.out _ _ ⟨(zb HB.out hw235_0), (zb HB.out hw235_1), (zb HB.out hw235_2), (zb HB.out hw235_3), (zb HB.out hw235_4), (zb HB.out hw235_5), (zb HB.out hw235_6), (zb HB.out hw235_7)⟩ (fun hHeld => ?_)
         clear hK K
         refine norm_ (a' := ?_) ?_ ?_
         rotate_left
         ·show Act.put _ (some 30) _ = _
          simp only [Act.put, List.setIfInBounds_toArray, List.set_cons_zero, List.set_cons_succ, zp, zr]
          rfl
         refine zv (i := 8) (N := some 31) (v := ?_) (a' := ?_) #[true, true, true, true, true, true, true, true, true] rfl rfl (zu HT_.out (by kernel_rfl)) (fun _ _ _ h => h) (Or.inl ⟨by rfl, ?_⟩) ?_ ?_
         rotate_left
         ·intro w'
          go_simp
          with_reducible rfl
         rotate_left
         ·simp only [Act.put, List.setIfInBounds_toArray, List.set_cons_zero, List.set_cons_succ, zp, zr]
          rfl
         refine done_ (done_of HT_.out (by kernel_rfl)) ?_
         try go_wp2
         have n0_ := Aside0.mk (ze HB.out)
         clear HB
         have HB := n0_
         clear n0_
         have p237 : 0 ≤ (x5_1 : Int) := of_decide_eq_true (by first | (with_reducible assumption) | assumption)
         have q237 : x5_1 < (l0.length : Int) := of_decide_eq_true (by first | (with_reducible assumption) | assumption)
         obtain ⟨ad237, e237, hx237_0, hx237_1, hx237_2, hx237_3, hx237_4, hx237_5, hx237_6, hx237_7⟩ := at_T55 HR0.out x5_1 p237 q237
         have hw237_7 := hx237_7
         have hw237_6 := hx237_6
         have hw237_5 := hx237_5
         have hw237_4 := hx237_4
         have hw237_3 := hx237_3
         have hw237_2 := hx237_2
         have hw237_1 := hx237_1
         have hw237_0 := hx237_0
         obtain rfl : ad234 = ad237 := (by injection e237)
         replace hx237_0 := zb HB.out hx237_0
         replace hx237_1 := zb HB.out hx237_1
         replace hx237_2 := zb HB.out hx237_2
         replace hx237_3 := zb HB.out hx237_3
         replace hx237_4 := zb HB.out hx237_4
         replace hx237_5 := zb HB.out hx237_5
         replace hx237_6 := zb HB.out hx237_6
         replace hx237_7 := zb HB.out hx237_7
         replace p237 := eq_true p237
         replace q237 := eq_true q237
         refine start_ (n := 9) (S := fun w' => w'.cell? (ad234.add ((x5_1).toNat * 8)) = some (.bool ((rd_T55 l0 x5_1).f0)) ∧ w'.cell? ⟨(ad234.add ((x5_1).toNat * 8)).block, (ad234.add ((x5_1).toNat * 8)).off + 1, none⟩ = some (.string ((rd_T55 l0 x5_1).f1.f0)) ∧ w'.cell? ⟨(ad234.add ((x5_1).toNat * 8)).block, (ad234.add ((x5_1).toNat * 8)).off + 2, none⟩ = some (.string ((rd_T55 l0 x5_1).f1.f1)) ∧ w'.cell? ⟨(ad234.add ((x5_1).toNat * 8)).block, (ad234.add ((x5_1).toNat * 8)).off + 3, none⟩ = some (.int .i64 ((rd_T55 l0 x5_1).f1.f2)) ∧ w'.cell? ⟨(ad234.add ((x5_1).toNat * 8)).block, (ad234.add ((x5_1).toNat * 8)).off + 4, none⟩ = some (.int .i64 ((rd_T55 l0 x5_1).f1.f3)) ∧ w'.cell? ⟨(ad234.add ((x5_1).toNat * 8)).block, (ad234.add ((x5_1).toNat * 8)).off + 5, none⟩ = some (.int .i64 ((rd_T55 l0 x5_1).f1.f4)) ∧ w'.cell? ⟨(ad234.add ((x5_1).toNat * 8)).block, (ad234.add ((x5_1).toNat * 8)).off + 6, none⟩ = some (.int .i64 ((rd_T55 l0 x5_1).f1.f5)) ∧ w'.cell? ⟨(ad234.add ((x5_1).toNat * 8)).block, (ad234.add ((x5_1).toNat * 8)).off + 7, none⟩ = some (.int .i64 ((rd_T55 l0 x5_1).f1.f6))) (ds := []) #[false, false, false, false, false, false, false, false, false] (by kernel_rfl) rfl rfl ⟨(zb HB.out hw237_0), (zb HB.out hw237_1), (zb HB.out hw237_2), (zb HB.out hw237_3), (zb HB.out hw237_4), (zb HB.out hw237_5), (zb HB.out hw237_6), (zb HB.out hw237_7)⟩ (fun hHeld => ?_); refine with_tabW laws_heldEffectS.tab10 laws_heldEffectS.bits10 (fun HT_ HW_ => ?_)
         generalize w36.drew = w37 at HB hx237_0 hx237_1 hx237_2 hx237_3 hx237_4 hx237_5 hx237_6 hx237_7 hHeld ⊢
         refine zv (i := 0) (N := some 34) (v := ?_) (a' := ?_) #[true, false, false, false, false, false, false, false, false] rfl rfl (zu HT_.out (by kernel_rfl)) (fun _ _ _ h => h) (Or.inl ⟨by rfl, ?_⟩) ?_ ?_
         rotate_left
         ·intro w'
          go_simp
          with_reducible rfl
         rotate_left
         ·simp only [Act.put, List.setIfInBounds_toArray, List.set_cons_zero, List.set_cons_succ, zp, zr]
          rfl
         refine zv (i := 1) (N := some 35) (v := ?_) (a' := ?_) #[true, true, false, false, false, false, false, false, false] rfl rfl (zu HT_.out (by kernel_rfl)) (fun _ _ _ h => h) (Or.inl ⟨by rfl, ?_⟩) ?_ ?_
         rotate_left
         ·intro w'
          go_simp
          with_reducible rfl
         rotate_left
         ·simp only [Act.put, List.setIfInBounds_toArray, List.set_cons_zero, List.set_cons_succ, zp, zr]
          rfl
         refine zv (i := 2) (N := some 36) (v := ?_) (a' := ?_) #[true, true, true, false, false, false, false, false, false] rfl rfl (zu HT_.out (by kernel_rfl)) (fun _ _ _ h => h) (Or.inl ⟨by rfl, ?_⟩) ?_ ?_
         rotate_left
         ·intro w'
          go_simp
          with_reducible rfl
         rotate_left
         ·simp only [Act.put, List.setIfInBounds_toArray, List.set_cons_zero, List.set_cons_succ, zp, zr]
          rfl
         refine zv (i := 3) (N := some 37) (v := ?_) (a' := ?_) #[true, true, true, true, false, false, false, false, false] rfl rfl (zu HT_.out (by kernel_rfl)) (fun _ _ _ h => h) (Or.inl ⟨by rfl, ?_⟩) ?_ ?_
         rotate_left
         ·intro w'
          go_simp
          with_reducible rfl
         rotate_left
         ·simp only [Act.put, List.setIfInBounds_toArray, List.set_cons_zero, List.set_cons_succ, zp, zr]
          rfl
         refine zv (i := 4) (N := some 38) (v := ?_) (a' := ?_) #[true, true, true, true, true, false, false, false, false] rfl rfl (zu HT_.out (by kernel_rfl)) (fun _ _ _ h => h) (Or.inl ⟨by rfl, ?_⟩) ?_ ?_
         rotate_left
         ·intro w'
          go_simp
          with_reducible rfl
         rotate_left
         ·simp only [Act.put, List.setIfInBounds_toArray, List.set_cons_zero, List.set_cons_succ, zp, zr]
          rfl
         refine zv (i := 6) (N := some 40) (v := ?_) (a' := ?_) #[true, true, true, true, true, false, true, false, false] rfl rfl (zu HT_.out (by kernel_rfl)) (fun _ _ _ h => h) (Or.inl ⟨by rfl, ?_⟩) ?_ ?_
         rotate_left
         ·intro w'
          go_simp
          with_reducible rfl
         rotate_left
         ·simp only [Act.put, List.setIfInBounds_toArray, List.set_cons_zero, List.set_cons_succ, zp, zr]
          rfl
         refine take_ (i := 5) (N := some 39) (v := ?_) (a' := ?_) #[true, true, true, true, true, true, true, false, false] rfl rfl (take_ofW HT_.out HW_.out (by kernel_rfl)) (fun _ _ _ h => h) (Or.inl ⟨by rfl, ?_⟩) hHeld ?_ ?_
         rotate_left
         ·rintro w' ⟨s0, s1, s2, s3, s4, s5, s6, s7⟩
          go_simp
          with_reducible rfl
         rotate_left
         ·simp only [Act.put, List.setIfInBounds_toArray, List.set_cons_zero, List.set_cons_succ, zp, zr]
          rfl
         refine one_ (i := 7) (N := some 41) #[true, true, true, true, true, true, true, true, false] rfl rfl (one_of HT_.out (by kernel_rfl)) (by decide) (fun K hK => ?_)
         refine goes_ Tryd.func50 (by kernel_rfl) rfl #[.int .i64 (wrap64 ((wrap64 (x1_1 + 1)) + 1))] (by rfl) rfl rfl (by (try simp only [List.map_toArray, List.map_cons, List.map_nil]); first | done | rfl | (simp only [List.length_drop, List.length_take]; rfl)) ?_
         with_reducible refine (laws_markText.calls k1 (wrap64 ((wrap64 (x1_1 + 1)) + 1)) t238 _ A8.out).mono ?_
         rintro e w38 ⟨rfl, hb⟩
         refine ⟨_, rfl, ?_⟩
         have n0_ := Aside0.mk (zm (by repeat (first | (with_reducible first | exact HB.out | apply zf | apply zc | apply ze) | exact HB.out)) hb)
         clear HB
         have HB := n0_
         clear n0_
         (try clear hb)
         (try clear hb2)
         (try clear hk)
         (try clear hi)
         refine hK.out _ _ ⟨(zb HB.out hw237_0), (zb HB.out hw237_1), (zb HB.out hw237_2), (zb HB.out hw237_3), (zb HB.out hw237_4), (zb HB.out hw237_5), (zb HB.out hw237_6), (zb HB.out hw237_7)⟩ (fun hHeld => ?_)
         clear hK K
         refine norm_ (a' := ?_) ?_ ?_
         rotate_left
         ·show Act.put _ (some 41) _ = _
          simp only [Act.put, List.setIfInBounds_toArray, List.set_cons_zero, List.set_cons_succ, zp, zr]
          rfl
         refine zv (i := 8) (N := some 42) (v := ?_) (a' := ?_) #[true, true, true, true, true, true, true, true, true] rfl rfl (zu HT_.out (by kernel_rfl)) (fun _ _ _ h => h) (Or.inl ⟨by rfl, ?_⟩) ?_ ?_
         rotate_left
         ·intro w'
          go_simp
          with_reducible rfl
         rotate_left
         ·simp only [Act.put, List.setIfInBounds_toArray, List.set_cons_zero, List.set_cons_succ, zp, zr]
          rfl
         refine done_ (done_of HT_.out (by kernel_rfl)) ?_
         have p239 : 0 ≤ (x5_1 : Int) := of_decide_eq_true (by first | (with_reducible assumption) | assumption)
         have q239 : x5_1 < (l0.length : Int) := of_decide_eq_true (by first | (with_reducible assumption) | assumption)
         obtain ⟨ad239, e239, hx239_0, hx239_1, hx239_2, hx239_3, hx239_4, hx239_5, hx239_6, hx239_7⟩ := at_T55 HR0.out x5_1 p239 q239
         obtain rfl : ad234 = ad239 := (by injection e239)
         replace hx239_0 := zb HB.out hx239_0
         replace hx239_1 := zb HB.out hx239_1
         replace hx239_2 := zb HB.out hx239_2
         replace hx239_3 := zb HB.out hx239_3
         replace hx239_4 := zb HB.out hx239_4
         replace hx239_5 := zb HB.out hx239_5
         replace hx239_6 := zb HB.out hx239_6
         replace hx239_7 := zb HB.out hx239_7
         replace p239 := eq_true p239
         replace q239 := eq_true q239
         try go_wp2
         go_ret
         exact ⟨by first | rfl | (simp [errW_none, errW_some] <;> rfl) | (simp [*, errW_none, errW_some] <;> rfl), by repeat (first | (with_reducible first | exact HB.out | apply zf | apply zc | apply ze) | exact HB.out)⟩
       ·rw [if_neg c9] at H
        have c9b0 : (((rd_T55 l0 x5_1).f1.f1).toList == t238.toList) = false := beq_eq_false_iff_ne.mpr c9
        have c9b1 : (((rd_T55 l0 x5_1).f1.f1).toList != t238.toList) = true := bne_iff_ne.mpr c9
        obtain rfl := Option.some.inj H
        have p234 : 0 ≤ (x5_1 : Int) := of_decide_eq_true (by first | (with_reducible assumption) | assumption)
        have q234 : x5_1 < (l0.length : Int) := of_decide_eq_true (by first | (with_reducible assumption) | assumption)
        obtain ⟨ad234, e234, hx234_0, hx234_1, hx234_2, hx234_3, hx234_4, hx234_5, hx234_6, hx234_7⟩ := at_T55 HR0.out x5_1 p234 q234
        cases e234
        replace hx234_0 := zb HB.out hx234_0
        replace hx234_1 := zb HB.out hx234_1
        replace hx234_2 := zb HB.out hx234_2
        replace hx234_3 := zb HB.out hx234_3
        replace hx234_4 := zb HB.out hx234_4
        replace hx234_5 := zb HB.out hx234_5
        replace hx234_6 := zb HB.out hx234_6
        replace hx234_7 := zb HB.out hx234_7
        replace p234 := eq_true p234
        replace q234 := eq_true q234
        try go_wp2
        have n0_ := Aside0.mk (ze HB.out)
        clear HB
        have HB := n0_
        clear n0_
        have p235 : 0 ≤ (x5_1 : Int) := of_decide_eq_true (by first | (with_reducible assumption) | assumption)
        have q235 : x5_1 < (l0.length : Int) := of_decide_eq_true (by first | (with_reducible assumption) | assumption)
        obtain ⟨ad235, e235, hx235_0, hx235_1, hx235_2, hx235_3, hx235_4, hx235_5, hx235_6, hx235_7⟩ := at_T55 HR0.out x5_1 p235 q235
        have hw235_7 := hx235_7
        have hw235_6 := hx235_6
        have hw235_5 := hx235_5
        have hw235_4 := hx235_4
        have hw235_3 := hx235_3
        have hw235_2 := hx235_2
        have hw235_1 := hx235_1
        have hw235_0 := hx235_0
        obtain rfl : ad234 = ad235 := (by injection e235)
        replace hx235_0 := zb HB.out hx235_0
        replace hx235_1 := zb HB.out hx235_1
        replace hx235_2 := zb HB.out hx235_2
        replace hx235_3 := zb HB.out hx235_3
        replace hx235_4 := zb HB.out hx235_4
        replace hx235_5 := zb HB.out hx235_5
        replace hx235_6 := zb HB.out hx235_6
        replace hx235_7 := zb HB.out hx235_7
        replace p235 := eq_true p235
        replace q235 := eq_true q235
        refine start_ (n := 9) (S := fun w' => w'.cell? (ad234.add ((x5_1).toNat * 8)) = some (.bool ((rd_T55 l0 x5_1).f0)) ∧ w'.cell? ⟨(ad234.add ((x5_1).toNat * 8)).block, (ad234.add ((x5_1).toNat * 8)).off + 1, none⟩ = some (.string ((rd_T55 l0 x5_1).f1.f0)) ∧ w'.cell? ⟨(ad234.add ((x5_1).toNat * 8)).block, (ad234.add ((x5_1).toNat * 8)).off + 2, none⟩ = some (.string ((rd_T55 l0 x5_1).f1.f1)) ∧ w'.cell? ⟨(ad234.add ((x5_1).toNat * 8)).block, (ad234.add ((x5_1).toNat * 8)).off + 3, none⟩ = some (.int .i64 ((rd_T55 l0 x5_1).f1.f2)) ∧ w'.cell? ⟨(ad234.add ((x5_1).toNat * 8)).block, (ad234.add ((x5_1).toNat * 8)).off + 4, none⟩ = some (.int .i64 ((rd_T55 l0 x5_1).f1.f3)) ∧ w'.cell? ⟨(ad234.add ((x5_1).toNat * 8)).block, (ad234.add ((x5_1).toNat * 8)).off + 5, none⟩ = some (.int .i64 ((rd_T55 l0 x5_1).f1.f4)) ∧ w'.cell? ⟨(ad234.add ((x5_1).toNat * 8)).block, (ad234.add ((x5_1).toNat * 8)).off + 6, none⟩ = some (.int .i64 ((rd_T55 l0 x5_1).f1.f5)) ∧ w'.cell? ⟨(ad234.add ((x5_1).toNat * 8)).block, (ad234.add ((x5_1).toNat * 8)).off + 7, none⟩ = some (.int .i64 ((rd_T55 l0 x5_1).f1.f6))) (ds := []) #[false, false, false, false, false, false, false, false, false] (by kernel_rfl) rfl rfl ⟨(zb HB.out hw235_0), (zb HB.out hw235_1), (zb HB.out hw235_2), (zb HB.out hw235_3), (zb HB.out hw235_4), (zb HB.out hw235_5), (zb HB.out hw235_6), (zb HB.out hw235_7)⟩ (fun hHeld => ?_); refine with_tabW laws_heldEffectS.tab7 laws_heldEffectS.bits7 (fun HT_ HW_ => ?_)
        generalize wr.drew = w39 at HB hx235_0 hx235_1 hx235_2 hx235_3 hx235_4 hx235_5 hx235_6 hx235_7 hHeld ⊢
        refine zv (i := 0) (N := some 23) (v := ?_) (a' := ?_) #[true, false, false, false, false, false, false, false, false] rfl rfl (zu HT_.out (by kernel_rfl)) (fun _ _ _ h => h) (Or.inl ⟨by rfl, ?_⟩) ?_ ?_
        rotate_left
        ·intro w'
         go_simp
         with_reducible rfl
        rotate_left
        ·simp only [Act.put, List.setIfInBounds_toArray, List.set_cons_zero, List.set_cons_succ, zp, zr]
         rfl
        refine zv (i := 1) (N := some 24) (v := ?_) (a' := ?_) #[true, true, false, false, false, false, false, false, false] rfl rfl (zu HT_.out (by kernel_rfl)) (fun _ _ _ h => h) (Or.inl ⟨by rfl, ?_⟩) ?_ ?_
        rotate_left
        ·intro w'
         go_simp
         with_reducible rfl
        rotate_left
        ·simp only [Act.put, List.setIfInBounds_toArray, List.set_cons_zero, List.set_cons_succ, zp, zr]
         rfl
        refine zv (i := 2) (N := some 25) (v := ?_) (a' := ?_) #[true, true, true, false, false, false, false, false, false] rfl rfl (zu HT_.out (by kernel_rfl)) (fun _ _ _ h => h) (Or.inl ⟨by rfl, ?_⟩) ?_ ?_
        rotate_left
        ·intro w'
         go_simp
         with_reducible rfl
        rotate_left
        ·simp only [Act.put, List.setIfInBounds_toArray, List.set_cons_zero, List.set_cons_succ, zp, zr]
         rfl
        refine zv (i := 3) (N := some 26) (v := ?_) (a' := ?_) #[true, true, true, true, false, false, false, false, false] rfl rfl (zu HT_.out (by kernel_rfl)) (fun _ _ _ h => h) (Or.inl ⟨by rfl, ?_⟩) ?_ ?_
        rotate_left
        ·intro w'
         go_simp
         with_reducible rfl
        rotate_left
        ·simp only [Act.put, List.setIfInBounds_toArray, List.set_cons_zero, List.set_cons_succ, zp, zr]
         rfl
        refine zv (i := 4) (N := some 27) (v := ?_) (a' := ?_) #[true, true, true, true, true, false, false, false, false] rfl rfl (zu HT_.out (by kernel_rfl)) (fun _ _ _ h => h) (Or.inl ⟨by rfl, ?_⟩) ?_ ?_
        rotate_left
        ·intro w'
         go_simp
         with_reducible rfl
        rotate_left
        ·simp only [Act.put, List.setIfInBounds_toArray, List.set_cons_zero, List.set_cons_succ, zp, zr]
         rfl
        refine zv (i := 6) (N := some 29) (v := ?_) (a' := ?_) #[true, true, true, true, true, false, true, false, false] rfl rfl (zu HT_.out (by kernel_rfl)) (fun _ _ _ h => h) (Or.inl ⟨by rfl, ?_⟩) ?_ ?_
        rotate_left
        ·intro w'
         go_simp
         with_reducible rfl
        rotate_left
        ·simp only [Act.put, List.setIfInBounds_toArray, List.set_cons_zero, List.set_cons_succ, zp, zr]
         rfl
        refine take_ (i := 5) (N := some 28) (v := ?_) (a' := ?_) #[true, true, true, true, true, true, true, false, false] rfl rfl (take_ofW HT_.out HW_.out (by kernel_rfl)) (fun _ _ _ h => h) (Or.inl ⟨by rfl, ?_⟩) hHeld ?_ ?_
        rotate_left
        ·rintro w' ⟨s0, s1, s2, s3, s4, s5, s6, s7⟩
         go_simp
         with_reducible rfl
        rotate_left
        ·simp only [Act.put, List.setIfInBounds_toArray, List.set_cons_zero, List.set_cons_succ, zp, zr]
         rfl
        refine one_ (i := 7) (N := some 30) #[true, true, true, true, true, true, true, true, false] rfl rfl (one_of HT_.out (by kernel_rfl)) (by decide) (fun K hK => ?_)
        refine goes_ Tryd.func50 (by kernel_rfl) rfl #[.int .i64 (wrap64 (x1_1 + 1))] (by rfl) rfl rfl (by (try simp only [List.map_toArray, List.map_cons, List.map_nil]); first | done | rfl | (simp only [List.length_drop, List.length_take]; rfl)) ?_
        with_reducible refine (laws_markText.calls k1 (wrap64 (x1_1 + 1)) t236 _ A6.out).mono ?_
        rintro e w40 ⟨rfl, hb⟩
        refine ⟨_, rfl, ?_⟩
        have n0_ := Aside0.mk (zm (by repeat (first | (with_reducible first | exact HB.out | apply zf | apply zc | apply ze) | exact HB.out)) hb)
        clear HB
        have HB := n0_
        clear n0_
        (try clear hb)
        (try clear hb2)
        (try clear hk)
        (try clear hi)
        refine hK.out _ _ ⟨(zb HB.out hw235_0), (zb HB.out hw235_1), (zb HB.out hw235_2), (zb HB.out hw235_3), (zb HB.out hw235_4), (zb HB.out hw235_5), (zb HB.out hw235_6), (zb HB.out hw235_7)⟩ (fun hHeld => ?_)
        clear hK K
        refine norm_ (a' := ?_) ?_ ?_
        rotate_left
        ·show Act.put _ (some 30) _ = _
         simp only [Act.put, List.setIfInBounds_toArray, List.set_cons_zero, List.set_cons_succ, zp, zr]
         rfl
        refine zv (i := 8) (N := some 31) (v := ?_) (a' := ?_) #[true, true, true, true, true, true, true, true, true] rfl rfl (zu HT_.out (by kernel_rfl)) (fun _ _ _ h => h) (Or.inl ⟨by rfl, ?_⟩) ?_ ?_
        rotate_left
        ·intro w'
         go_simp
         with_reducible rfl
        rotate_left
        ·simp only [Act.put, List.setIfInBounds_toArray, List.set_cons_zero, List.set_cons_succ, zp, zr]
         rfl
        refine done_ (done_of HT_.out (by kernel_rfl)) ?_
        try go_wp2
        have n0_ := Aside0.mk (ze HB.out)
        clear HB
        have HB := n0_
        clear n0_
        have p237 : 0 ≤ (x5_1 : Int) := of_decide_eq_true (by first | (with_reducible assumption) | assumption)
        have q237 : x5_1 < (l0.length : Int) := of_decide_eq_true (by first | (with_reducible assumption) | assumption)
        obtain ⟨ad237, e237, hx237_0, hx237_1, hx237_2, hx237_3, hx237_4, hx237_5, hx237_6, hx237_7⟩ := at_T55 HR0.out x5_1 p237 q237
        have hw237_7 := hx237_7
        have hw237_6 := hx237_6
        have hw237_5 := hx237_5
        have hw237_4 := hx237_4
        have hw237_3 := hx237_3
        have hw237_2 := hx237_2
        have hw237_1 := hx237_1
        have hw237_0 := hx237_0
        obtain rfl : ad234 = ad237 := (by injection e237)
        replace hx237_0 := zb HB.out hx237_0
        replace hx237_1 := zb HB.out hx237_1
        replace hx237_2 := zb HB.out hx237_2
        replace hx237_3 := zb HB.out hx237_3
        replace hx237_4 := zb HB.out hx237_4
        replace hx237_5 := zb HB.out hx237_5
        replace hx237_6 := zb HB.out hx237_6
        replace hx237_7 := zb HB.out hx237_7
        replace p237 := eq_true p237
        replace q237 := eq_true q237
        refine start_ (n := 9) (S := fun w' => w'.cell? (ad234.add ((x5_1).toNat * 8)) = some (.bool ((rd_T55 l0 x5_1).f0)) ∧ w'.cell? ⟨(ad234.add ((x5_1).toNat * 8)).block, (ad234.add ((x5_1).toNat * 8)).off + 1, none⟩ = some (.string ((rd_T55 l0 x5_1).f1.f0)) ∧ w'.cell? ⟨(ad234.add ((x5_1).toNat * 8)).block, (ad234.add ((x5_1).toNat * 8)).off + 2, none⟩ = some (.string ((rd_T55 l0 x5_1).f1.f1)) ∧ w'.cell? ⟨(ad234.add ((x5_1).toNat * 8)).block, (ad234.add ((x5_1).toNat * 8)).off + 3, none⟩ = some (.int .i64 ((rd_T55 l0 x5_1).f1.f2)) ∧ w'.cell? ⟨(ad234.add ((x5_1).toNat * 8)).block, (ad234.add ((x5_1).toNat * 8)).off + 4, none⟩ = some (.int .i64 ((rd_T55 l0 x5_1).f1.f3)) ∧ w'.cell? ⟨(ad234.add ((x5_1).toNat * 8)).block, (ad234.add ((x5_1).toNat * 8)).off + 5, none⟩ = some (.int .i64 ((rd_T55 l0 x5_1).f1.f4)) ∧ w'.cell? ⟨(ad234.add ((x5_1).toNat * 8)).block, (ad234.add ((x5_1).toNat * 8)).off + 6, none⟩ = some (.int .i64 ((rd_T55 l0 x5_1).f1.f5)) ∧ w'.cell? ⟨(ad234.add ((x5_1).toNat * 8)).block, (ad234.add ((x5_1).toNat * 8)).off + 7, none⟩ = some (.int .i64 ((rd_T55 l0 x5_1).f1.f6))) (ds := []) #[false, false, false, false, false, false, false, false, false] (by kernel_rfl) rfl rfl ⟨(zb HB.out hw237_0), (zb HB.out hw237_1), (zb HB.out hw237_2), (zb HB.out hw237_3), (zb HB.out hw237_4), (zb HB.out hw237_5), (zb HB.out hw237_6), (zb HB.out hw237_7)⟩ (fun hHeld => ?_); refine with_tabW laws_heldEffectS.tab10 laws_heldEffectS.bits10 (fun HT_ HW_ => ?_)
        generalize w40.drew = w41 at HB hx237_0 hx237_1 hx237_2 hx237_3 hx237_4 hx237_5 hx237_6 hx237_7 hHeld ⊢
        refine zv (i := 0) (N := some 34) (v := ?_) (a' := ?_) #[true, false, false, false, false, false, false, false, false] rfl rfl (zu HT_.out (by kernel_rfl)) (fun _ _ _ h => h) (Or.inl ⟨by rfl, ?_⟩) ?_ ?_
        rotate_left
        ·intro w'
         go_simp
         with_reducible rfl
        rotate_left
        ·simp only [Act.put, List.setIfInBounds_toArray, List.set_cons_zero, List.set_cons_succ, zp, zr]
         rfl
        refine zv (i := 1) (N := some 35) (v := ?_) (a' := ?_) #[true, true, false, false, false, false, false, false, false] rfl rfl (zu HT_.out (by kernel_rfl)) (fun _ _ _ h => h) (Or.inl ⟨by rfl, ?_⟩) ?_ ?_
        rotate_left
        ·intro w'
         go_simp
         with_reducible rfl
        rotate_left
        ·simp only [Act.put, List.setIfInBounds_toArray, List.set_cons_zero, List.set_cons_succ, zp, zr]
         rfl
        refine zv (i := 2) (N := some 36) (v := ?_) (a' := ?_) #[true, true, true, false, false, false, false, false, false] rfl rfl (zu HT_.out (by kernel_rfl)) (fun _ _ _ h => h) (Or.inl ⟨by rfl, ?_⟩) ?_ ?_
        rotate_left
        ·intro w'
         go_simp
         with_reducible rfl
        rotate_left
        ·simp only [Act.put, List.setIfInBounds_toArray, List.set_cons_zero, List.set_cons_succ, zp, zr]
         rfl
        refine zv (i := 3) (N := some 37) (v := ?_) (a' := ?_) #[true, true, true, true, false, false, false, false, false] rfl rfl (zu HT_.out (by kernel_rfl)) (fun _ _ _ h => h) (Or.inl ⟨by rfl, ?_⟩) ?_ ?_
        rotate_left
        ·intro w'
         go_simp
         with_reducible rfl
        rotate_left
        ·simp only [Act.put, List.setIfInBounds_toArray, List.set_cons_zero, List.set_cons_succ, zp, zr]
         rfl
        refine zv (i := 4) (N := some 38) (v := ?_) (a' := ?_) #[true, true, true, true, true, false, false, false, false] rfl rfl (zu HT_.out (by kernel_rfl)) (fun _ _ _ h => h) (Or.inl ⟨by rfl, ?_⟩) ?_ ?_
        rotate_left
        ·intro w'
         go_simp
         with_reducible rfl
        rotate_left
        ·simp only [Act.put, List.setIfInBounds_toArray, List.set_cons_zero, List.set_cons_succ, zp, zr]
         rfl
        refine zv (i := 6) (N := some 40) (v := ?_) (a' := ?_) #[true, true, true, true, true, false, true, false, false] rfl rfl (zu HT_.out (by kernel_rfl)) (fun _ _ _ h => h) (Or.inl ⟨by rfl, ?_⟩) ?_ ?_
        rotate_left
        ·intro w'
         go_simp
         with_reducible rfl
        rotate_left
        ·simp only [Act.put, List.setIfInBounds_toArray, List.set_cons_zero, List.set_cons_succ, zp, zr]
         rfl
        refine take_ (i := 5) (N := some 39) (v := ?_) (a' := ?_) #[true, true, true, true, true, true, true, false, false] rfl rfl (take_ofW HT_.out HW_.out (by kernel_rfl)) (fun _ _ _ h => h) (Or.inl ⟨by rfl, ?_⟩) hHeld ?_ ?_
        rotate_left
        ·rintro w' ⟨s0, s1, s2, s3, s4, s5, s6, s7⟩
         go_simp
         with_reducible rfl
        rotate_left
        ·simp only [Act.put, List.setIfInBounds_toArray, List.set_cons_zero, List.set_cons_succ, zp, zr]
         rfl
        refine one_ (i := 7) (N := some 41) #[true, true, true, true, true, true, true, true, false] rfl rfl (one_of HT_.out (by kernel_rfl)) (by decide) (fun K hK => ?_)
        refine goes_ Tryd.func50 (by kernel_rfl) rfl #[.int .i64 (wrap64 ((wrap64 (x1_1 + 1)) + 1))] (by rfl) rfl rfl (by (try simp only [List.map_toArray, List.map_cons, List.map_nil]); first | done | rfl | (simp only [List.length_drop, List.length_take]; rfl)) ?_
        with_reducible refine (laws_markText.calls k1 (wrap64 ((wrap64 (x1_1 + 1)) + 1)) t238 _ A8.out).mono ?_
        rintro e w42 ⟨rfl, hb⟩
        refine ⟨_, rfl, ?_⟩
        have n0_ := Aside0.mk (zm (by repeat (first | (with_reducible first | exact HB.out | apply zf | apply zc | apply ze) | exact HB.out)) hb)
        clear HB
        have HB := n0_
        clear n0_
        (try clear hb)
        (try clear hb2)
        (try clear hk)
        (try clear hi)
        refine hK.out _ _ ⟨(zb HB.out hw237_0), (zb HB.out hw237_1), (zb HB.out hw237_2), (zb HB.out hw237_3), (zb HB.out hw237_4), (zb HB.out hw237_5), (zb HB.out hw237_6), (zb HB.out hw237_7)⟩ (fun hHeld => ?_)
        clear hK K
        refine norm_ (a' := ?_) ?_ ?_
        rotate_left
        ·show Act.put _ (some 41) _ = _
         simp only [Act.put, List.setIfInBounds_toArray, List.set_cons_zero, List.set_cons_succ, zp, zr]
         rfl
        refine zv (i := 8) (N := some 42) (v := ?_) (a' := ?_) #[true, true, true, true, true, true, true, true, true] rfl rfl (zu HT_.out (by kernel_rfl)) (fun _ _ _ h => h) (Or.inl ⟨by rfl, ?_⟩) ?_ ?_
        rotate_left
        ·intro w'
         go_simp
         with_reducible rfl
        rotate_left
        ·simp only [Act.put, List.setIfInBounds_toArray, List.set_cons_zero, List.set_cons_succ, zp, zr]
         rfl
        refine done_ (done_of HT_.out (by kernel_rfl)) ?_
        try go_wp2
        go_ret
        exact ⟨by first | rfl | (simp [errW_none, errW_some] <;> rfl) | (simp [*, errW_none, errW_some] <;> rfl), by repeat (first | (with_reducible first | exact HB.out | apply zf | apply zc | apply ze) | exact HB.out)⟩
      ·rw [if_neg c7] at H
       have c7b0 : (((rd_T55 l0 x5_1).f1.f0).toList == t236.toList) = false := beq_eq_false_iff_ne.mpr c7
       have c7b1 : (((rd_T55 l0 x5_1).f1.f0).toList != t236.toList) = true := bne_iff_ne.mpr c7
       obtain rfl := Option.some.inj H
       have p234 : 0 ≤ (x5_1 : Int) := of_decide_eq_true (by first | (with_reducible assumption) | assumption)
       have q234 : x5_1 < (l0.length : Int) := of_decide_eq_true (by first | (with_reducible assumption) | assumption)
       obtain ⟨ad234, e234, hx234_0, hx234_1, hx234_2, hx234_3, hx234_4, hx234_5, hx234_6, hx234_7⟩ := at_T55 HR0.out x5_1 p234 q234
       cases e234
       replace hx234_0 := zb HB.out hx234_0
       replace hx234_1 := zb HB.out hx234_1
       replace hx234_2 := zb HB.out hx234_2
       replace hx234_3 := zb HB.out hx234_3
       replace hx234_4 := zb HB.out hx234_4
       replace hx234_5 := zb HB.out hx234_5
       replace hx234_6 := zb HB.out hx234_6
       replace hx234_7 := zb HB.out hx234_7
       replace p234 := eq_true p234
       replace q234 := eq_true q234
       try go_wp2
       have n0_ := Aside0.mk (ze HB.out)
       clear HB
       have HB := n0_
       clear n0_
       have p235 : 0 ≤ (x5_1 : Int) := of_decide_eq_true (by first | (with_reducible assumption) | assumption)
       have q235 : x5_1 < (l0.length : Int) := of_decide_eq_true (by first | (with_reducible assumption) | assumption)
       obtain ⟨ad235, e235, hx235_0, hx235_1, hx235_2, hx235_3, hx235_4, hx235_5, hx235_6, hx235_7⟩ := at_T55 HR0.out x5_1 p235 q235
       have hw235_7 := hx235_7
       have hw235_6 := hx235_6
       have hw235_5 := hx235_5
       have hw235_4 := hx235_4
       have hw235_3 := hx235_3
       have hw235_2 := hx235_2
       have hw235_1 := hx235_1
       have hw235_0 := hx235_0
       obtain rfl : ad234 = ad235 := (by injection e235)
       replace hx235_0 := zb HB.out hx235_0
       replace hx235_1 := zb HB.out hx235_1
       replace hx235_2 := zb HB.out hx235_2
       replace hx235_3 := zb HB.out hx235_3
       replace hx235_4 := zb HB.out hx235_4
       replace hx235_5 := zb HB.out hx235_5
       replace hx235_6 := zb HB.out hx235_6
       replace hx235_7 := zb HB.out hx235_7
       replace p235 := eq_true p235
       replace q235 := eq_true q235
       refine start_ (n := 9) (S := fun w' => w'.cell? (ad234.add ((x5_1).toNat * 8)) = some (.bool ((rd_T55 l0 x5_1).f0)) ∧ w'.cell? ⟨(ad234.add ((x5_1).toNat * 8)).block, (ad234.add ((x5_1).toNat * 8)).off + 1, none⟩ = some (.string ((rd_T55 l0 x5_1).f1.f0)) ∧ w'.cell? ⟨(ad234.add ((x5_1).toNat * 8)).block, (ad234.add ((x5_1).toNat * 8)).off + 2, none⟩ = some (.string ((rd_T55 l0 x5_1).f1.f1)) ∧ w'.cell? ⟨(ad234.add ((x5_1).toNat * 8)).block, (ad234.add ((x5_1).toNat * 8)).off + 3, none⟩ = some (.int .i64 ((rd_T55 l0 x5_1).f1.f2)) ∧ w'.cell? ⟨(ad234.add ((x5_1).toNat * 8)).block, (ad234.add ((x5_1).toNat * 8)).off + 4, none⟩ = some (.int .i64 ((rd_T55 l0 x5_1).f1.f3)) ∧ w'.cell? ⟨(ad234.add ((x5_1).toNat * 8)).block, (ad234.add ((x5_1).toNat * 8)).off + 5, none⟩ = some (.int .i64 ((rd_T55 l0 x5_1).f1.f4)) ∧ w'.cell? ⟨(ad234.add ((x5_1).toNat * 8)).block, (ad234.add ((x5_1).toNat * 8)).off + 6, none⟩ = some (.int .i64 ((rd_T55 l0 x5_1).f1.f5)) ∧ w'.cell? ⟨(ad234.add ((x5_1).toNat * 8)).block, (ad234.add ((x5_1).toNat * 8)).off + 7, none⟩ = some (.int .i64 ((rd_T55 l0 x5_1).f1.f6))) (ds := []) #[false, false, false, false, false, false, false, false, false] (by kernel_rfl) rfl rfl ⟨(zb HB.out hw235_0), (zb HB.out hw235_1), (zb HB.out hw235_2), (zb HB.out hw235_3), (zb HB.out hw235_4), (zb HB.out hw235_5), (zb HB.out hw235_6), (zb HB.out hw235_7)⟩ (fun hHeld => ?_); refine with_tabW laws_heldEffectS.tab7 laws_heldEffectS.bits7 (fun HT_ HW_ => ?_)
       generalize wr.drew = w43 at HB hx235_0 hx235_1 hx235_2 hx235_3 hx235_4 hx235_5 hx235_6 hx235_7 hHeld ⊢
       refine zv (i := 0) (N := some 23) (v := ?_) (a' := ?_) #[true, false, false, false, false, false, false, false, false] rfl rfl (zu HT_.out (by kernel_rfl)) (fun _ _ _ h => h) (Or.inl ⟨by rfl, ?_⟩) ?_ ?_
       rotate_left
       ·intro w'
        go_simp
        with_reducible rfl
       rotate_left
       ·simp only [Act.put, List.setIfInBounds_toArray, List.set_cons_zero, List.set_cons_succ, zp, zr]
        rfl
       refine zv (i := 1) (N := some 24) (v := ?_) (a' := ?_) #[true, true, false, false, false, false, false, false, false] rfl rfl (zu HT_.out (by kernel_rfl)) (fun _ _ _ h => h) (Or.inl ⟨by rfl, ?_⟩) ?_ ?_
       rotate_left
       ·intro w'
        go_simp
        with_reducible rfl
       rotate_left
       ·simp only [Act.put, List.setIfInBounds_toArray, List.set_cons_zero, List.set_cons_succ, zp, zr]
        rfl
       refine zv (i := 2) (N := some 25) (v := ?_) (a' := ?_) #[true, true, true, false, false, false, false, false, false] rfl rfl (zu HT_.out (by kernel_rfl)) (fun _ _ _ h => h) (Or.inl ⟨by rfl, ?_⟩) ?_ ?_
       rotate_left
       ·intro w'
        go_simp
        with_reducible rfl
       rotate_left
       ·simp only [Act.put, List.setIfInBounds_toArray, List.set_cons_zero, List.set_cons_succ, zp, zr]
        rfl
       refine zv (i := 3) (N := some 26) (v := ?_) (a' := ?_) #[true, true, true, true, false, false, false, false, false] rfl rfl (zu HT_.out (by kernel_rfl)) (fun _ _ _ h => h) (Or.inl ⟨by rfl, ?_⟩) ?_ ?_
       rotate_left
       ·intro w'
        go_simp
        with_reducible rfl
       rotate_left
       ·simp only [Act.put, List.setIfInBounds_toArray, List.set_cons_zero, List.set_cons_succ, zp, zr]
        rfl
       refine zv (i := 4) (N := some 27) (v := ?_) (a' := ?_) #[true, true, true, true, true, false, false, false, false] rfl rfl (zu HT_.out (by kernel_rfl)) (fun _ _ _ h => h) (Or.inl ⟨by rfl, ?_⟩) ?_ ?_
       rotate_left
       ·intro w'
        go_simp
        with_reducible rfl
       rotate_left
       ·simp only [Act.put, List.setIfInBounds_toArray, List.set_cons_zero, List.set_cons_succ, zp, zr]
        rfl
       refine zv (i := 6) (N := some 29) (v := ?_) (a' := ?_) #[true, true, true, true, true, false, true, false, false] rfl rfl (zu HT_.out (by kernel_rfl)) (fun _ _ _ h => h) (Or.inl ⟨by rfl, ?_⟩) ?_ ?_
       rotate_left
       ·intro w'
        go_simp
        with_reducible rfl
       rotate_left
       ·simp only [Act.put, List.setIfInBounds_toArray, List.set_cons_zero, List.set_cons_succ, zp, zr]
        rfl
       refine take_ (i := 5) (N := some 28) (v := ?_) (a' := ?_) #[true, true, true, true, true, true, true, false, false] rfl rfl (take_ofW HT_.out HW_.out (by kernel_rfl)) (fun _ _ _ h => h) (Or.inl ⟨by rfl, ?_⟩) hHeld ?_ ?_
       rotate_left
       ·rintro w' ⟨s0, s1, s2, s3, s4, s5, s6, s7⟩
        go_simp
        with_reducible rfl
       rotate_left
       ·simp only [Act.put, List.setIfInBounds_toArray, List.set_cons_zero, List.set_cons_succ, zp, zr]
        rfl
       refine one_ (i := 7) (N := some 30) #[true, true, true, true, true, true, true, true, false] rfl rfl (one_of HT_.out (by kernel_rfl)) (by decide) (fun K hK => ?_)
       refine goes_ Tryd.func50 (by kernel_rfl) rfl #[.int .i64 (wrap64 (x1_1 + 1))] (by rfl) rfl rfl (by (try simp only [List.map_toArray, List.map_cons, List.map_nil]); first | done | rfl | (simp only [List.length_drop, List.length_take]; rfl)) ?_
       with_reducible refine (laws_markText.calls k1 (wrap64 (x1_1 + 1)) t236 _ A6.out).mono ?_
       rintro e w44 ⟨rfl, hb⟩
       refine ⟨_, rfl, ?_⟩
       have n0_ := Aside0.mk (zm (by repeat (first | (with_reducible first | exact HB.out | apply zf | apply zc | apply ze) | exact HB.out)) hb)
       clear HB
       have HB := n0_
       clear n0_
       (try clear hb)
       (try clear hb2)
       (try clear hk)
       (try clear hi)
       refine hK.out _ _ ⟨(zb HB.out hw235_0), (zb HB.out hw235_1), (zb HB.out hw235_2), (zb HB.out hw235_3), (zb HB.out hw235_4), (zb HB.out hw235_5), (zb HB.out hw235_6), (zb HB.out hw235_7)⟩ (fun hHeld => ?_)
       clear hK K
       refine norm_ (a' := ?_) ?_ ?_
       rotate_left
       ·show Act.put _ (some 30) _ = _
        simp only [Act.put, List.setIfInBounds_toArray, List.set_cons_zero, List.set_cons_succ, zp, zr]
        rfl
       refine zv (i := 8) (N := some 31) (v := ?_) (a' := ?_) #[true, true, true, true, true, true, true, true, true] rfl rfl (zu HT_.out (by kernel_rfl)) (fun _ _ _ h => h) (Or.inl ⟨by rfl, ?_⟩) ?_ ?_
       rotate_left
       ·intro w'
        go_simp
        with_reducible rfl
       rotate_left
       ·simp only [Act.put, List.setIfInBounds_toArray, List.set_cons_zero, List.set_cons_succ, zp, zr]
        rfl
       refine done_ (done_of HT_.out (by kernel_rfl)) ?_
       try go_wp2
       go_ret
       exact ⟨by first | rfl | (simp [errW_none, errW_some] <;> rfl) | (simp [*, errW_none, errW_some] <;> rfl), by repeat (first | (with_reducible first | exact HB.out | apply zf | apply zc | apply ze) | exact HB.out)⟩
    ·rw [if_neg c4] at H
     exact absurd H (by simp)
   ·rw [if_neg c3] at H
    have c3b0 : decide (x5_1 < (l0.length : Int)) = false := decide_eq_false c3
    clear c3
    obtain rfl := Option.some.inj H
    go_wp2
    go_ret
    exact ⟨by first | rfl | (simp [errW_none, errW_some] <;> rfl) | (simp [*, errW_none, errW_some] <;> rfl), by repeat (first | (with_reducible first | exact HB.out | apply zf | apply zc | apply ze) | exact HB.out)⟩

end Go.Proofs.YtejecjjimggjeaaDoor.GFnExactDecodeTxn
