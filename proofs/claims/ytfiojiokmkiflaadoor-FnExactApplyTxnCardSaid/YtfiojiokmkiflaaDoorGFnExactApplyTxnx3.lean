/- Written by give.py, a program of this session, that runs the kit's print and lays contracts proved by hand beside it. -/
import Derived.Test.YtfiojiokmkiflaaDoorGFnExactApplyTxnx0
import Derived.Test.YtfiojiokmkiflaaDoorHStep
import Derived.Test.YtfiojiokmkiflaaDoorGFnExactApplyTxnx1
import Derived.Test.YtfiojiokmkiflaaDoorGFnExactApplyTxnx2
namespace Go.Proofs.YtfiojiokmkiflaaDoor.GFnExactApplyTxn
open Go.Proofs.YtfiojiokmkiflaaDoorH (pu po ta pt ps p0 p1)
open Go.RowKit Go.Proofs.YtfiojiokmkiflaaDoorW.PrintWords Go.Proofs.YtfiojiokmkiflaaDoorW.PrintLast Go.Proofs.YtfiojiokmkiflaaDoorW.PrintMore
attribute [local go_sem] max2_int min2_int max_two min_two max_three min_three max_four min_four
attribute [local go_sem high] Go.Proofs.YtfiojiokmkiflaaDoorH.str_leq Go.Proofs.YtfiojiokmkiflaaDoorH.str_geq Go.Proofs.YtfiojiokmkiflaaDoorH.str_gtr   -- for this text's walks alone
set_option linter.unusedVariables false
set_option linter.unusedSimpArgs false

attribute [local go_sem high] eqA77
def spec_ValidTree.f (k : Nat) (l0_0 : List (S77)) : Option (Bool) := if (l0_0.length : Int) ≤ 1000 then ((spec_l3Sorted.f k l0_0).bind fun t141 => (some t141)) else (some false)
theorem spec_ValidTree.mono : ∀ a0 k, LeO (spec_ValidTree.f k a0) (spec_ValidTree.f (k + 1) a0) := by
 intro a0 k
 unfold spec_ValidTree.f
 repeat' first
   | (with_reducible exact spec_l3Sorted.mono _ _)
   | (with_reducible exact LeO.refl _)
   | (with_reducible exact LeO.none _)
   | (with_reducible refine LeO.ite ?_ ?_)
   | (with_reducible refine LeO.bind ?_ (fun _ => ?_))
   | exact spec_l3Sorted.mono _ _
   | exact LeO.none _
   | refine LeO.ite ?_ ?_
   | refine LeO.bind ?_ (fun _ => ?_)
set_option maxHeartbeats 8000000 in
set_option maxRecDepth 100000 in
theorem spec_ValidTree.calls (k : Nat) (A0_0 : Option Addr) (c0_0 : Nat) (l0_0 : List (S77)) (r : Bool) (w : World) (hr0_0 : Kd.C k77 w A0_0 l0_0.length l0_0) (hc0_0 : l0_0.length ≤ c0_0) (h : spec_ValidTree.f k l0_0 = some r) :
  Calls Tryd.prog 8 #[.agg #[.slice A0_0 l0_0.length c0_0]] w fun e w' => e = .returned (.bool r) ∧ Below w.heap.size w w' := by
 have hu25 := Tryd.underlying25
 have HR0_0 := Aside0.mk hr0_0
 have HC0_0 := Aside0.mk hc0_0
 clear hr0_0 hc0_0
 have HB := Aside0.mk (Below.refl w.heap.size w)
 have H : (if (l0_0.length : Int) ≤ 1000 then ((spec_l3Sorted.f k l0_0).bind fun t141 => (some t141)) else (some false)) = some r := h
 clear h
 by_cases c2 : (l0_0.length : Int) ≤ 1000
 ·rw [if_pos c2] at H
  have c2b0 : decide ((l0_0.length : Int) ≤ 1000) = true := decide_eq_true c2
  have c2b1 : decide (l0_0.length ≤ 1000) = true := decide_eq_true (by omega)
  clear c2
  replace H := Option.bind_eq_some_iff.mp H
  obtain ⟨t141, A30, H⟩ := H
  try dsimp only at H
  have A3 := Aside0.mk A30
  clear A30
  obtain rfl := Option.some.inj H
  go_enter Tryd.func8, Tryd.ntmps8
  go_wp2_with (first | ((with_reducible refine zu (N := 1) rfl ?_); refine zy ?hg (N := 1) ?hd (cs := #[.slice A0_0 l0_0.length c0_0]) (t := 25) ?hr ?_; (case hd => rfl); (case hg => rfl); (case hr => first | (go_simp; done) | (go_simp; rfl)); intro zA hg w4 hbox hb; have n0_ := Aside0.mk (zn (by exact bl HB.out) hb); have n1_ := Aside0.mk (hbox); have n2_ := Aside0.mk ((by rw [hg]; exact (zm (by exact bl HB.out)) : w.heap.size ≤ zA)); have n3_ := Aside0.mk ((by rw [hg]; exact (zm (by exact bl HB.out)) : w.heap.size ≤ zA)); clear HB; have HB := n0_; have zB := n1_; have GW140 := n2_; have zC := n3_; clear n0_ n1_ n2_ n3_; clear hb hbox hg; have zD : w4.cell? ⟨zA, 0, none⟩ = some (.slice A0_0 l0_0.length c0_0) := (zc zB.out 0).trans rfl; have zE := ze zB.out 0) | (go_at_call 38; (with_reducible refine (spec_l3Sorted.calls k _ _ l0_0 t141 _ ?side1 ?side2 A3.out).mono ?_); (case side1 => repeat (first | exact (Kd.C_below HR0_0.out HB.out) | (with_reducible refine Kd.C_alloc ?_ _) | (with_reducible refine Kd.C_drewN ?_ _) | (with_reducible refine Kd.C_drew ?_))); (case side2 => exact HC0_0.out); rintro e w6 ⟨rfl, hb⟩; have n0_ := Aside0.mk (zi (g := zA) (o := .cells #[.slice A0_0 l0_0.length c0_0] 25 (0, 0)) (BL zB.out) hb); have n1_ := Aside0.mk (zn (by exact bl HB.out) hb); clear zB; clear HB; have zB := n0_; have HB := n1_; clear n0_ n1_; (try clear hb); (try clear hb2); (try clear hk); (try clear hi)))
  go_ret
  exact ⟨by first | rfl | (simp [*] <;> rfl), by repeat (first | (with_reducible first | exact HB.out | apply zh | apply zf | apply zg | refine zd ?_ zC.out) | exact HB.out)⟩
 ·rw [if_neg c2] at H
  have c2b0 : decide ((l0_0.length : Int) ≤ 1000) = false := decide_eq_false c2
  have c2b1 : decide (l0_0.length ≤ 1000) = false := decide_eq_false (by omega)
  clear c2
  obtain rfl := Option.some.inj H
  go_enter Tryd.func8, Tryd.ntmps8
  go_wp2_with (first | ((with_reducible refine zu (N := 1) rfl ?_); refine zy ?hg (N := 1) ?hd (cs := #[.slice A0_0 l0_0.length c0_0]) (t := 25) ?hr ?_; (case hd => rfl); (case hg => rfl); (case hr => first | (go_simp; done) | (go_simp; rfl)); intro zA hg w7 hbox hb; have n0_ := Aside0.mk (zn (by exact bl HB.out) hb); have n1_ := Aside0.mk (hbox); have n2_ := Aside0.mk ((by rw [hg]; exact (zm (by exact bl HB.out)) : w.heap.size ≤ zA)); have n3_ := Aside0.mk ((by rw [hg]; exact (zm (by exact bl HB.out)) : w.heap.size ≤ zA)); clear HB; have HB := n0_; have zB := n1_; have GW140 := n2_; have zC := n3_; clear n0_ n1_ n2_ n3_; clear hb hbox hg; have zF : w7.cell? ⟨zA, 0, none⟩ = some (.slice A0_0 l0_0.length c0_0) := (zc zB.out 0).trans rfl; have zG := ze zB.out 0))
  go_ret
  exact ⟨by first | rfl | (simp [*] <;> rfl), by repeat (first | (with_reducible first | exact HB.out | apply zh | apply zf | apply zg | refine zd ?_ zC.out) | exact HB.out)⟩

mutual
def spec_ValidTxn.j0 : Nat → Bool → Int → List (S108) → Option (Bool)
 | 0, _, _, _ => none
 | k + 1, x18, x143000, x143001 => if x18 = true then (some false) else (spec_ValidTxn.l0 k 0 x143000 x143001)
def spec_ValidTxn.l0 : Nat → Int → Int → List (S108) → Option (Bool)
 | 0, _, _, _ => none
 | k + 1, x3, x143000, x143001 => if x3 < (x143001.length : Int) then (if 0 ≤ x3 then ((spec_l3ValidNode.f k ((rd_T108 x143001 x3).f1.f0) ((rd_T108 x143001 x3).f1.f1) ((rd_T108 x143001 x3).f1.f2) ((rd_T108 x143001 x3).f1.f3) ((rd_T108 x143001 x3).f1.f4) ((rd_T108 x143001 x3).f1.f5) ((rd_T108 x143001 x3).f1.f6)).bind fun t145 => (if t145 = true then (if x3 > 0 then (if 0 ≤ (wrap64 (x3 - 1)) then (if (wrap64 (x3 - 1)) < (x143001.length : Int) then (spec_ValidTxn.j2 k x3 (!(Op.bytesLess (((rd_T108 x143001 (wrap64 (x3 - 1))).f1.f0).toList) (((rd_T108 x143001 x3).f1.f0).toList))) x143000 x143001 ((rd_T108 x143001 x3).f0) ((rd_T108 x143001 x3).f1.f0) ((rd_T108 x143001 x3).f1.f1) ((rd_T108 x143001 x3).f1.f2) ((rd_T108 x143001 x3).f1.f3) ((rd_T108 x143001 x3).f1.f4) ((rd_T108 x143001 x3).f1.f5) ((rd_T108 x143001 x3).f1.f6)) else (none)) else (none)) else (spec_ValidTxn.j2 k x3 false x143000 x143001 ((rd_T108 x143001 x3).f0) ((rd_T108 x143001 x3).f1.f0) ((rd_T108 x143001 x3).f1.f1) ((rd_T108 x143001 x3).f1.f2) ((rd_T108 x143001 x3).f1.f3) ((rd_T108 x143001 x3).f1.f4) ((rd_T108 x143001 x3).f1.f5) ((rd_T108 x143001 x3).f1.f6))) else (spec_ValidTxn.j2 k x3 true x143000 x143001 ((rd_T108 x143001 x3).f0) ((rd_T108 x143001 x3).f1.f0) ((rd_T108 x143001 x3).f1.f1) ((rd_T108 x143001 x3).f1.f2) ((rd_T108 x143001 x3).f1.f3) ((rd_T108 x143001 x3).f1.f4) ((rd_T108 x143001 x3).f1.f5) ((rd_T108 x143001 x3).f1.f6)))) else (none)) else (some true)
def spec_ValidTxn.j2 : Nat → Int → Bool → Int → List (S108) → Bool → ByteArray → ByteArray → Int → Int → Int → Int → Int → Option (Bool)
 | 0, _, _, _, _, _, _, _, _, _, _, _, _ => none
 | k + 1, x3, x52, x143000, x143001, x145000, x145001, x145002, x145003, x145004, x145005, x145006, x145007 => if x52 = true then (some false) else (if x145000 = true then (if (!(x145002.toList == ([] : List UInt8)) || (!(x145003 == 0) || (!(x145004 == 0) || (!(x145005 == 0) || (!(x145006 == 0) || (!(x145007 == 0))))))) = true then (some false) else (spec_ValidTxn.l0 k (wrap64 (x3 + 1)) x143000 x143001)) else (spec_ValidTxn.l0 k (wrap64 (x3 + 1)) x143000 x143001))
end
def spec_ValidTxn.f (k : Nat) (a0_0 : Int) (l0_1 : List (S108)) : Option (Bool) := if a0_0 < 1 then (spec_ValidTxn.j0 k true a0_0 l0_1) else (if a0_0 > 2147483647 then (spec_ValidTxn.j0 k true a0_0 l0_1) else (spec_ValidTxn.j0 k (decide ((l0_1.length : Int) > 1000)) a0_0 l0_1))
theorem spec_ValidTxn.mono_l : ∀ k, (∀ y0 y1 y2, LeO (spec_ValidTxn.j0 k y0 y1 y2) (spec_ValidTxn.j0 (k + 1) y0 y1 y2)) ∧ (∀ y0 y1 y2, LeO (spec_ValidTxn.l0 k y0 y1 y2) (spec_ValidTxn.l0 (k + 1) y0 y1 y2)) ∧ (∀ y0 y1 y2 y3 y4 y5 y6 y7 y8 y9 y10 y11, LeO (spec_ValidTxn.j2 k y0 y1 y2 y3 y4 y5 y6 y7 y8 y9 y10 y11) (spec_ValidTxn.j2 (k + 1) y0 y1 y2 y3 y4 y5 y6 y7 y8 y9 y10 y11))
 | 0 => ⟨fun _ _ _ r h => by simp [spec_ValidTxn.j0] at h, fun _ _ _ r h => by simp [spec_ValidTxn.l0] at h, fun _ _ _ _ _ _ _ _ _ _ _ _ r h => by simp [spec_ValidTxn.j2] at h⟩
 | k + 1 => by
  obtain ⟨ih0, ih1, ih2⟩ := spec_ValidTxn.mono_l k
  refine ⟨?_, ?_, ?_⟩
  ·intro y0 y1 y2
   unfold spec_ValidTxn.j0
   repeat' first
   | (with_reducible exact ih0 _ _ _)
   | (with_reducible exact ih1 _ _ _)
   | (with_reducible exact ih2 _ _ _ _ _ _ _ _ _ _ _ _)
   | (with_reducible exact spec_l3ValidNode.mono _ _ _ _ _ _ _ _)
   | (with_reducible exact LeO.refl _)
   | (with_reducible exact LeO.none _)
   | (with_reducible refine LeO.ite ?_ ?_)
   | (with_reducible refine LeO.bind ?_ (fun _ => ?_))
   | exact ih0 _ _ _
   | exact ih1 _ _ _
   | exact ih2 _ _ _ _ _ _ _ _ _ _ _ _
   | exact spec_l3ValidNode.mono _ _ _ _ _ _ _ _
   | exact LeO.none _
   | refine LeO.ite ?_ ?_
   | refine LeO.bind ?_ (fun _ => ?_)
  ·intro y0 y1 y2
   unfold spec_ValidTxn.l0
   repeat' first
   | (with_reducible exact ih0 _ _ _)
   | (with_reducible exact ih1 _ _ _)
   | (with_reducible exact ih2 _ _ _ _ _ _ _ _ _ _ _ _)
   | (with_reducible exact spec_l3ValidNode.mono _ _ _ _ _ _ _ _)
   | (with_reducible exact LeO.refl _)
   | (with_reducible exact LeO.none _)
   | (with_reducible refine LeO.ite ?_ ?_)
   | (with_reducible refine LeO.bind ?_ (fun _ => ?_))
   | exact ih0 _ _ _
   | exact ih1 _ _ _
   | exact ih2 _ _ _ _ _ _ _ _ _ _ _ _
   | exact spec_l3ValidNode.mono _ _ _ _ _ _ _ _
   | exact LeO.none _
   | refine LeO.ite ?_ ?_
   | refine LeO.bind ?_ (fun _ => ?_)
  ·intro y0 y1 y2 y3 y4 y5 y6 y7 y8 y9 y10 y11
   unfold spec_ValidTxn.j2
   repeat' first
   | (with_reducible exact ih0 _ _ _)
   | (with_reducible exact ih1 _ _ _)
   | (with_reducible exact ih2 _ _ _ _ _ _ _ _ _ _ _ _)
   | (with_reducible exact spec_l3ValidNode.mono _ _ _ _ _ _ _ _)
   | (with_reducible exact LeO.refl _)
   | (with_reducible exact LeO.none _)
   | (with_reducible refine LeO.ite ?_ ?_)
   | (with_reducible refine LeO.bind ?_ (fun _ => ?_))
   | exact ih0 _ _ _
   | exact ih1 _ _ _
   | exact ih2 _ _ _ _ _ _ _ _ _ _ _ _
   | exact spec_l3ValidNode.mono _ _ _ _ _ _ _ _
   | exact LeO.none _
   | refine LeO.ite ?_ ?_
   | refine LeO.bind ?_ (fun _ => ?_)
theorem spec_ValidTxn.mono : ∀ a0 a1 k, LeO (spec_ValidTxn.f k a0 a1) (spec_ValidTxn.f (k + 1) a0 a1) := by
 intro a0 a1 k
 obtain ⟨ih0, ih1, ih2⟩ := spec_ValidTxn.mono_l k
 unfold spec_ValidTxn.f
 repeat' first
   | (with_reducible exact ih0 _ _ _)
   | (with_reducible exact ih1 _ _ _)
   | (with_reducible exact ih2 _ _ _ _ _ _ _ _ _ _ _ _)
   | (with_reducible exact spec_l3ValidNode.mono _ _ _ _ _ _ _ _)
   | (with_reducible exact LeO.refl _)
   | (with_reducible exact LeO.none _)
   | (with_reducible refine LeO.ite ?_ ?_)
   | (with_reducible refine LeO.bind ?_ (fun _ => ?_))
   | exact ih0 _ _ _
   | exact ih1 _ _ _
   | exact ih2 _ _ _ _ _ _ _ _ _ _ _ _
   | exact spec_l3ValidNode.mono _ _ _ _ _ _ _ _
   | exact LeO.none _
   | refine LeO.ite ?_ ?_
   | refine LeO.bind ?_ (fun _ => ?_)
def spec_ValidTxn.T7 : Bool × List (List Nat × List Nat) := (true, [([], []), ([0], [0]), ([1], [1]), ([2], [2]), ([3, 2], [3]), ([4], [4]), ([5, 4], [4, 5]), ([6, 4, 4], [4, 6]), ([7], [7]), ([8, 7], [7, 8]), ([9, 7], [7, 9]), ([7], [7]), ([11, 7], [7, 11]), ([7], [7]), ([13, 7], [7, 13]), ([12, 14, 7], [7, 12, 14]), ([15, 7], [7, 15]), ([16, 7], [7, 16]), ([17, 7], [7, 17]), ([10, 18, 7], [7, 10, 18]), ([7, 19, 4], [4, 7, 19]), ([4, 20], [4, 20])])
def spec_ValidTxn.B7 : List Nat := [0, 1, 3, 7, 15, 31, 63, 127, 255, 511, 1023, 255, 2303, 255, 8447, 30975, 63743, 129279, 260351, 524287, 1048575, 2097151]
theorem spec_ValidTxn.tab7 : rtab .any (opsOf Tryd.f58 7) = spec_ValidTxn.T7 := by kernel_rfl
theorem spec_ValidTxn.bits7 : waitsOk spec_ValidTxn.T7.2 spec_ValidTxn.B7 = true := by kernel_rfl
set_option maxHeartbeats 8000000 in
set_option maxRecDepth 100000 in
theorem spec_ValidTxn.calls (k : Nat) (a0_0 : Int) (A0_1 : Option Addr) (c0_1 : Nat) (l0_1 : List (S108)) (r : Bool) (w : World) (hr0_1 : Kd.C k108 w A0_1 l0_1.length l0_1) (hc0_1 : l0_1.length ≤ c0_1) (h : spec_ValidTxn.f k a0_0 l0_1 = some r) :
  Calls Tryd.prog 58 #[.agg #[.int .i64 a0_0, .slice A0_1 l0_1.length c0_1]] w fun e w' => e = .returned (.bool r) ∧ Below w.heap.size w w' := by
 have hu55 := Tryd.underlying55
 have hu108 := Tryd.underlying108
 have hu77 := Tryd.underlying77
 have HR0_1 := Aside0.mk hr0_1
 have HC0_1 := Aside0.mk hc0_1
 clear hr0_1 hc0_1
 have HB := Aside0.mk (Below.refl w.heap.size w)
 have H : (if a0_0 < 1 then (spec_ValidTxn.j0 k true a0_0 l0_1) else (if a0_0 > 2147483647 then (spec_ValidTxn.j0 k true a0_0 l0_1) else (spec_ValidTxn.j0 k (decide ((l0_1.length : Int) > 1000)) a0_0 l0_1))) = some r := h
 clear h
 have HC2 := Aside0.mk H
 clear H
 go_enter Tryd.func58, Tryd.ntmps58
 go_upto_region 1 with (first | ((with_reducible refine zu (N := 1) rfl ?_); (try (refine gate_guard (by rfl) ?_; dsimp only)); refine zy ?hg (N := 1) ?hd (cs := #[.int .i64 a0_0, .slice A0_1 l0_1.length c0_1]) (t := 55) ?hr ?_; (case hd => rfl); (case hg => rfl); (case hr => first | (go_simp; done) | (go_simp; rfl)); intro zE hg w3 hbox hb; have n0_ := Aside0.mk (zn (by exact bl HB.out) hb); have n1_ := Aside0.mk (hbox); have n2_ := Aside0.mk ((by rw [hg]; exact (zm (by exact bl HB.out)) : w.heap.size ≤ zE)); have n3_ := Aside0.mk ((by rw [hg]; exact (zm (by exact bl HB.out)) : w.heap.size ≤ zE)); clear HB; have HB := n0_; have zC := n1_; have GW142 := n2_; have zF := n3_; clear n0_ n1_ n2_ n3_; clear hb hbox hg))
 (try simp only [Act.put, List.setIfInBounds_toArray, List.set_cons_zero, List.set_cons_succ])
 go_cut [18] (fun v18 wc => ∃ (kq : Nat) (x18_1 : Bool), v18 = .bool x18_1 ∧ Aside0 (spec_ValidTxn.j0 kq x18_1 a0_0 l0_1 = some r) ∧ Aside0 (kq ≤ k) ∧ Aside0 (wc.heap[zE]? = some (.cells #[.int .i64 a0_0, (.slice A0_1 l0_1.length c0_1)] 55 (0, 0))) ∧ Aside0 (Below w.heap.size w wc))
 case first =>
  have H := HC2.out
  clear HC2
  by_cases c4 : a0_0 < 1
  ·rw [if_pos c4] at H
   have c4b0 : decide (a0_0 < 1) = true := decide_eq_true c4
   clear c4
   (first | rw [c4b0] | (simp only [zo, zp]; rw [c4b0]) | skip)
   have H' := Aside0.mk H
   clear H
   have zI : w3.cell? ⟨zE, 0, none⟩ = some (.int .i64 a0_0) := (zc zC.out 0).trans rfl
   have zJ : w3.cell? ⟨zE, 1, none⟩ = some (.slice A0_1 l0_1.length c0_1) := (zc zC.out 1).trans rfl
   have zK := ze zC.out 0
   have zL := ze zC.out 1
   go_wp2
   go_meet
   case rel => exact ⟨_, (true), (by first | rfl | (simp [*]; done)), H', ⟨by first | omega | exact Nat.le_refl _⟩, ⟨BL zC.out⟩, ⟨by repeat (first | (with_reducible first | exact HB.out | apply zh | apply zf | apply zg | refine zd ?_ zF.out) | exact HB.out)⟩⟩
  ·rw [if_neg c4] at H
   have c4b0 : decide (a0_0 < 1) = false := decide_eq_false c4
   clear c4
   (first | rw [c4b0] | (simp only [zo, zp]; rw [c4b0]) | skip)
   by_cases c6 : a0_0 > 2147483647
   ·rw [if_pos c6] at H
    have c6b0 : decide (2147483647 < a0_0) = true := decide_eq_true c6
    clear c6
    have H' := Aside0.mk H
    clear H
    have zM : w3.cell? ⟨zE, 0, none⟩ = some (.int .i64 a0_0) := (zc zC.out 0).trans rfl
    have zN : w3.cell? ⟨zE, 1, none⟩ = some (.slice A0_1 l0_1.length c0_1) := (zc zC.out 1).trans rfl
    have zO := ze zC.out 0
    have zP := ze zC.out 1
    go_wp2
    go_meet
    case rel => exact ⟨_, (true), (by first | rfl | (simp [*]; done)), H', ⟨by first | omega | exact Nat.le_refl _⟩, ⟨BL zC.out⟩, ⟨by repeat (first | (with_reducible first | exact HB.out | apply zh | apply zf | apply zg | refine zd ?_ zF.out) | exact HB.out)⟩⟩
   ·rw [if_neg c6] at H
    have c6b0 : decide (2147483647 < a0_0) = false := decide_eq_false c6
    clear c6
    have H' := Aside0.mk H
    clear H
    have zQ : w3.cell? ⟨zE, 0, none⟩ = some (.int .i64 a0_0) := (zc zC.out 0).trans rfl
    have zR : w3.cell? ⟨zE, 1, none⟩ = some (.slice A0_1 l0_1.length c0_1) := (zc zC.out 1).trans rfl
    have zS := ze zC.out 0
    have zT := ze zC.out 1
    go_wp2
    go_meet
    case rel => exact ⟨_, (decide ((l0_1.length : Int) > 1000)), (by first | rfl | (simp [*]; done)), H', ⟨by first | omega | exact Nat.le_refl _⟩, ⟨BL zC.out⟩, ⟨by repeat (first | (with_reducible first | exact HB.out | apply zh | apply zf | apply zg | refine zd ?_ zF.out) | exact HB.out)⟩⟩
 case rest =>
  clear HC2
  try clear p2
  try clear c4
  try clear c4b0
  try clear c5
  try clear c6
  try clear c6b0
  try clear zI
  try clear zJ
  try clear zM
  try clear zN
  try clear zQ
  try clear zR
  try clear zK
  try clear zL
  try clear zO
  try clear zP
  try clear zS
  try clear zT
  obtain ⟨kq, x18_1, rfl, HA, HJ1, zC, HB⟩ := hcut
  cases kq with
  | zero => exact absurd HA.out (by simp [spec_ValidTxn.j0])
  | succ kj1 =>
   have H := HA.out
   clear HA
   simp only [spec_ValidTxn.j0] at H
   by_cases c9 : x18_1 = true
   ·subst c9
    rw [if_pos rfl] at H
    obtain rfl := Option.some.inj H
    go_wp2
    go_ret
    exact ⟨by first | rfl | (simp [*] <;> rfl), by repeat (first | (with_reducible first | exact HB.out | apply zh | apply zf | apply zg | refine zd ?_ zF.out) | exact HB.out)⟩
   ·replace c9 := Bool.eq_false_iff.mpr c9
    subst c9
    rw [if_neg (show ¬ (false = true) by decide)] at H
    have H' := Aside0.mk H
    clear H
    go_wp2
    go_loopg [3] kj1 (fun kq v3 w' => ∃ (x3_2 : Int), v3 = .int .i64 x3_2 ∧ Aside0 (spec_ValidTxn.l0 kq x3_2 a0_0 l0_1 = some r) ∧ Aside0 (kq ≤ kj1) ∧ Aside0 (w'.heap[zE]? = some (.cells #[.int .i64 a0_0, (.slice A0_1 l0_1.length c0_1)] 55 (0, 0))) ∧ Aside0 (Below w.heap.size w w'))
    case atStart => exact ⟨(0), (by first | rfl | (simp [*]; done)), H', ⟨Nat.le_refl _⟩, ⟨BL zC.out⟩, ⟨by repeat (first | (with_reducible first | exact HB.out | apply zh | apply zf | apply zg | refine zd ?_ zF.out) | exact HB.out)⟩⟩
    case round =>
     clear H'
     try clear p2
     try clear c4
     try clear c4b0
     try clear c5
     try clear c6
     try clear c6b0
     try clear c9
     try clear zI
     try clear zJ
     try clear zM
     try clear zN
     try clear zQ
     try clear zR
     try clear zK
     try clear zL
     try clear zO
     try clear zP
     try clear zS
     try clear zT
     try clear p2
     obtain ⟨x3_2, rfl, HA, HK2, zC, HB⟩ := hrel
     cases gk with
     | zero => exact absurd HA.out (by simp [spec_ValidTxn.l0])
     | succ k2 =>
      have H := HA.out
      clear HA
      simp only [spec_ValidTxn.l0] at H
      by_cases c10 : x3_2 < (l0_1.length : Int)
      ·rw [if_pos c10] at H
       have c10b0 : decide (x3_2 < (l0_1.length : Int)) = true := decide_eq_true c10
       clear c10
       by_cases c11 : 0 ≤ x3_2
       ·rw [if_pos c11] at H
        have c11b0 : decide (0 ≤ x3_2) = true := decide_eq_true c11
        clear c11
        have HC12 := Aside0.mk H
        clear H
        have zU : wr.cell? ⟨zE, 0, none⟩ = some (.int .i64 a0_0) := (zc zC.out 0).trans rfl
        have zV : wr.cell? ⟨zE, 1, none⟩ = some (.slice A0_1 l0_1.length c0_1) := (zc zC.out 1).trans rfl
        have zW := ze zC.out 0
        have zX := ze zC.out 1
        have p143 : 0 ≤ (x3_2 : Int) := of_decide_eq_true (by with_reducible assumption)
        have q143 : x3_2 < (l0_1.length : Int) := of_decide_eq_true (by with_reducible assumption)
        obtain ⟨ad143, e143, hx143_0, hx143_1, hx143_2, hx143_3, hx143_4, hx143_5, hx143_6, hx143_7⟩ := at_T108 (Kd.C_below HR0_1.out HB.out) x3_2 p143 q143
        cases e143
        replace p143 := eq_true p143
        replace q143 := eq_true q143
        go_upto_region 7 with (first | ((with_reducible refine zu (N := 4) rfl ?_); (try (refine gate_guard (by rfl) ?_; dsimp only)); refine zy ?hg (N := 4) ?hd (cs := #[.bool false, .string (⟨#[]⟩ : ByteArray), .string (⟨#[]⟩ : ByteArray), .int .i64 0, .int .i64 0, .int .i64 0, .int .i64 0, .int .i64 0]) (t := 108) ?hr ?_; (case hd => rfl); (case hg => rfl); (case hr => first | (go_simp; done) | (go_simp; rfl)); intro zB hg w14 hbox hb; have n0_ := Aside0.mk (zi (g := zE) (o := .cells #[.int .i64 a0_0, .slice (some ad143) l0_1.length c0_1] 55 (0, 0)) (BL zC.out) hb); have n1_ := Aside0.mk (zn (by exact bl HB.out) hb); have n2_ := Aside0.mk (hbox); have n3_ := Aside0.mk ((by rw [hg]; exact (zm (by exact bl HB.out)) : w.heap.size ≤ zB)); have n4_ := Aside0.mk ((by rw [hg]; exact (zm (by exact bl HB.out)) : w.heap.size ≤ zB)); have n5_ := Aside0.mk ((by rw [hg]; exact Nat.ne_of_lt (zt (g := zE) (o := .cells #[.int .i64 a0_0, .slice (some ad143) l0_1.length c0_1] 55 (0, 0)) (BL zC.out)) : zE ≠ zB)); have n6_ := Aside0.mk ((by rw [hg]; exact Nat.ne_of_gt (zt (g := zE) (o := .cells #[.int .i64 a0_0, .slice (some ad143) l0_1.length c0_1] 55 (0, 0)) (BL zC.out)) : zB ≠ zE)); clear zC; clear HB; have zC := n0_; have HB := n1_; have zA := n2_; have GW144 := n3_; have zG := n4_; have zD := n5_; have zH := n6_; clear n0_ n1_ n2_ n3_ n4_ n5_ n6_; clear hb hbox hg; have zoc := zH.out; have zpc := zD.out; have zY : w14.cell? ⟨zB, 0, none⟩ = some (.bool false) := (zc zA.out 0).trans rfl; have zZ : w14.cell? ⟨zB, 1, none⟩ = some (.string (⟨#[]⟩ : ByteArray)) := (zc zA.out 1).trans rfl; have zab : w14.cell? ⟨zB, 2, none⟩ = some (.string (⟨#[]⟩ : ByteArray)) := (zc zA.out 2).trans rfl; have zbb : w14.cell? ⟨zB, 3, none⟩ = some (.int .i64 0) := (zc zA.out 3).trans rfl; have zcb : w14.cell? ⟨zB, 4, none⟩ = some (.int .i64 0) := (zc zA.out 4).trans rfl; have zdb : w14.cell? ⟨zB, 5, none⟩ = some (.int .i64 0) := (zc zA.out 5).trans rfl; have zeb : w14.cell? ⟨zB, 6, none⟩ = some (.int .i64 0) := (zc zA.out 6).trans rfl; have zfb : w14.cell? ⟨zB, 7, none⟩ = some (.int .i64 0) := (zc zA.out 7).trans rfl; have zgb := ze zA.out 0; have zhb := ze zA.out 1; have zib := ze zA.out 2; have zjb := ze zA.out 3; have zkb := ze zA.out 4; have zlb := ze zA.out 5; have zmb := ze zA.out 6; have znb := ze zA.out 7))
        (try simp only [Act.put, List.setIfInBounds_toArray, List.set_cons_zero, List.set_cons_succ])
        go_cut [52] (fun v52 wc => ∃ (kq : Nat) (x52_11 : Bool), v52 = .bool x52_11 ∧ Aside0 (spec_ValidTxn.j2 kq x3_2 x52_11 a0_0 l0_1 ((rd_T108 l0_1 x3_2).f0) ((rd_T108 l0_1 x3_2).f1.f0) ((rd_T108 l0_1 x3_2).f1.f1) ((rd_T108 l0_1 x3_2).f1.f2) ((rd_T108 l0_1 x3_2).f1.f3) ((rd_T108 l0_1 x3_2).f1.f4) ((rd_T108 l0_1 x3_2).f1.f5) ((rd_T108 l0_1 x3_2).f1.f6) = some r) ∧ Aside0 (kq ≤ k2) ∧ Aside0 (wc.heap[zE]? = some (.cells #[.int .i64 a0_0, (.slice (some ad143) l0_1.length c0_1)] 55 (0, 0))) ∧ Aside0 (wc.heap[zB]? = some (.cells #[.bool ((rd_T108 l0_1 x3_2).f0), .string ((rd_T108 l0_1 x3_2).f1.f0), .string ((rd_T108 l0_1 x3_2).f1.f1), .int .i64 ((rd_T108 l0_1 x3_2).f1.f2), .int .i64 ((rd_T108 l0_1 x3_2).f1.f3), .int .i64 ((rd_T108 l0_1 x3_2).f1.f4), .int .i64 ((rd_T108 l0_1 x3_2).f1.f5), .int .i64 ((rd_T108 l0_1 x3_2).f1.f6)] 108 (0, 0))) ∧ Aside0 (Below w.heap.size w wc))
        case first =>
         have H := HC12.out
         clear HC12
         replace H := Option.bind_eq_some_iff.mp H
         obtain ⟨t145, A170, H⟩ := H
         try dsimp only at H
         have A17 := Aside0.mk A170
         clear A170
         by_cases c18 : t145 = true
         ·subst c18
          rw [if_pos rfl] at H
          by_cases c19 : x3_2 > 0
          ·rw [if_pos c19] at H
           have c19b0 : decide (0 < x3_2) = true := decide_eq_true c19
           clear c19
           (first | rw [c19b0] | (simp only [zo, zp]; rw [c19b0]) | skip)
           obtain ⟨ji20, hji20⟩ : ∃ j_ : Int, (wrap64 (x3_2 - 1)) = j_ := ⟨_, rfl⟩
           replace H : (if 0 ≤ (ji20) then (if (ji20) < (l0_1.length : Int) then (spec_ValidTxn.j2 k2 x3_2 (!(Op.bytesLess (((rd_T108 l0_1 (ji20)).f1.f0).toList) (((rd_T108 l0_1 x3_2).f1.f0).toList))) a0_0 l0_1 ((rd_T108 l0_1 x3_2).f0) ((rd_T108 l0_1 x3_2).f1.f0) ((rd_T108 l0_1 x3_2).f1.f1) ((rd_T108 l0_1 x3_2).f1.f2) ((rd_T108 l0_1 x3_2).f1.f3) ((rd_T108 l0_1 x3_2).f1.f4) ((rd_T108 l0_1 x3_2).f1.f5) ((rd_T108 l0_1 x3_2).f1.f6)) else (none)) else (none)) = some r := by first | (rw [hji20] at H; exact H) | (simp only [hji20] at H ⊢; exact H)
           (try rw [hji20] at A17)
           have hji20w : (IntKind.i64.wrap (x3_2 - 1)) = ji20 := (zo _).trans hji20
           by_cases c21 : 0 ≤ (ji20)
           ·rw [if_pos c21] at H
            have c21b0 : decide (0 ≤ (ji20)) = true := decide_eq_true c21
            clear c21
            by_cases c22 : (ji20) < (l0_1.length : Int)
            ·rw [if_pos c22] at H
             have c22b0 : decide ((ji20) < (l0_1.length : Int)) = true := decide_eq_true c22
             clear c22
             have H' := Aside0.mk H
             clear H
             try go_wp2
             have n0_ : Aside0 (((((((((w14.setCell ⟨zB, 0, none⟩ (.bool ((rd_T108 l0_1 x3_2).f0))).setCell ⟨zB, 1, none⟩ (.string ((rd_T108 l0_1 x3_2).f1.f0))).setCell ⟨zB, 2, none⟩ (.string ((rd_T108 l0_1 x3_2).f1.f1))).setCell ⟨zB, 3, none⟩ (.int .i64 ((rd_T108 l0_1 x3_2).f1.f2))).setCell ⟨zB, 4, none⟩ (.int .i64 ((rd_T108 l0_1 x3_2).f1.f3))).setCell ⟨zB, 5, none⟩ (.int .i64 ((rd_T108 l0_1 x3_2).f1.f4))).setCell ⟨zB, 6, none⟩ (.int .i64 ((rd_T108 l0_1 x3_2).f1.f5))).setCell ⟨zB, 7, none⟩ (.int .i64 ((rd_T108 l0_1 x3_2).f1.f6))).heap[zE]? = some (.cells #[.int .i64 a0_0, .slice (some ad143) l0_1.length c0_1] 55 (0, 0))) := ⟨by (with_reducible repeat (first | refine zk ?_ _ | refine zl ?_ | refine zj ?_ _)); refine zw ?_ zD.out _; (with_reducible repeat (first | refine zk ?_ _ | refine zl ?_ | refine zj ?_ _)); refine zw ?_ zD.out _; (with_reducible repeat (first | refine zk ?_ _ | refine zl ?_ | refine zj ?_ _)); refine zw ?_ zD.out _; (with_reducible repeat (first | refine zk ?_ _ | refine zl ?_ | refine zj ?_ _)); refine zw ?_ zD.out _; (with_reducible repeat (first | refine zk ?_ _ | refine zl ?_ | refine zj ?_ _)); refine zw ?_ zD.out _; (with_reducible repeat (first | refine zk ?_ _ | refine zl ?_ | refine zj ?_ _)); refine zw ?_ zD.out _; (with_reducible repeat (first | refine zk ?_ _ | refine zl ?_ | refine zj ?_ _)); refine zw ?_ zD.out _; (with_reducible repeat (first | refine zk ?_ _ | refine zl ?_ | refine zj ?_ _)); refine zw ?_ zD.out _; (with_reducible repeat (first | refine zk ?_ _ | refine zl ?_ | refine zj ?_ _)); exact zC.out⟩
             have n1_ : Aside0 (((((((((w14.setCell ⟨zB, 0, none⟩ (.bool ((rd_T108 l0_1 x3_2).f0))).setCell ⟨zB, 1, none⟩ (.string ((rd_T108 l0_1 x3_2).f1.f0))).setCell ⟨zB, 2, none⟩ (.string ((rd_T108 l0_1 x3_2).f1.f1))).setCell ⟨zB, 3, none⟩ (.int .i64 ((rd_T108 l0_1 x3_2).f1.f2))).setCell ⟨zB, 4, none⟩ (.int .i64 ((rd_T108 l0_1 x3_2).f1.f3))).setCell ⟨zB, 5, none⟩ (.int .i64 ((rd_T108 l0_1 x3_2).f1.f4))).setCell ⟨zB, 6, none⟩ (.int .i64 ((rd_T108 l0_1 x3_2).f1.f5))).setCell ⟨zB, 7, none⟩ (.int .i64 ((rd_T108 l0_1 x3_2).f1.f6))).heap[zB]? = some (.cells #[.bool ((rd_T108 l0_1 x3_2).f0), .string ((rd_T108 l0_1 x3_2).f1.f0), .string ((rd_T108 l0_1 x3_2).f1.f1), .int .i64 ((rd_T108 l0_1 x3_2).f1.f2), .int .i64 ((rd_T108 l0_1 x3_2).f1.f3), .int .i64 ((rd_T108 l0_1 x3_2).f1.f4), .int .i64 ((rd_T108 l0_1 x3_2).f1.f5), .int .i64 ((rd_T108 l0_1 x3_2).f1.f6)] 108 (0, 0))) := ⟨by (with_reducible repeat (first | refine zk ?_ _ | refine zl ?_ | refine zj ?_ _)); refine zv (cs := #[.bool ((rd_T108 l0_1 x3_2).f0), .string ((rd_T108 l0_1 x3_2).f1.f0), .string ((rd_T108 l0_1 x3_2).f1.f1), .int .i64 ((rd_T108 l0_1 x3_2).f1.f2), .int .i64 ((rd_T108 l0_1 x3_2).f1.f3), .int .i64 ((rd_T108 l0_1 x3_2).f1.f4), .int .i64 ((rd_T108 l0_1 x3_2).f1.f5), .int .i64 0]) ?_ 7 _ rfl; (with_reducible repeat (first | refine zk ?_ _ | refine zl ?_ | refine zj ?_ _)); refine zv (cs := #[.bool ((rd_T108 l0_1 x3_2).f0), .string ((rd_T108 l0_1 x3_2).f1.f0), .string ((rd_T108 l0_1 x3_2).f1.f1), .int .i64 ((rd_T108 l0_1 x3_2).f1.f2), .int .i64 ((rd_T108 l0_1 x3_2).f1.f3), .int .i64 ((rd_T108 l0_1 x3_2).f1.f4), .int .i64 0, .int .i64 0]) ?_ 6 _ rfl; (with_reducible repeat (first | refine zk ?_ _ | refine zl ?_ | refine zj ?_ _)); refine zv (cs := #[.bool ((rd_T108 l0_1 x3_2).f0), .string ((rd_T108 l0_1 x3_2).f1.f0), .string ((rd_T108 l0_1 x3_2).f1.f1), .int .i64 ((rd_T108 l0_1 x3_2).f1.f2), .int .i64 ((rd_T108 l0_1 x3_2).f1.f3), .int .i64 0, .int .i64 0, .int .i64 0]) ?_ 5 _ rfl; (with_reducible repeat (first | refine zk ?_ _ | refine zl ?_ | refine zj ?_ _)); refine zv (cs := #[.bool ((rd_T108 l0_1 x3_2).f0), .string ((rd_T108 l0_1 x3_2).f1.f0), .string ((rd_T108 l0_1 x3_2).f1.f1), .int .i64 ((rd_T108 l0_1 x3_2).f1.f2), .int .i64 0, .int .i64 0, .int .i64 0, .int .i64 0]) ?_ 4 _ rfl; (with_reducible repeat (first | refine zk ?_ _ | refine zl ?_ | refine zj ?_ _)); refine zv (cs := #[.bool ((rd_T108 l0_1 x3_2).f0), .string ((rd_T108 l0_1 x3_2).f1.f0), .string ((rd_T108 l0_1 x3_2).f1.f1), .int .i64 0, .int .i64 0, .int .i64 0, .int .i64 0, .int .i64 0]) ?_ 3 _ rfl; (with_reducible repeat (first | refine zk ?_ _ | refine zl ?_ | refine zj ?_ _)); refine zv (cs := #[.bool ((rd_T108 l0_1 x3_2).f0), .string ((rd_T108 l0_1 x3_2).f1.f0), .string (⟨#[]⟩ : ByteArray), .int .i64 0, .int .i64 0, .int .i64 0, .int .i64 0, .int .i64 0]) ?_ 2 _ rfl; (with_reducible repeat (first | refine zk ?_ _ | refine zl ?_ | refine zj ?_ _)); refine zv (cs := #[.bool ((rd_T108 l0_1 x3_2).f0), .string (⟨#[]⟩ : ByteArray), .string (⟨#[]⟩ : ByteArray), .int .i64 0, .int .i64 0, .int .i64 0, .int .i64 0, .int .i64 0]) ?_ 1 _ rfl; (with_reducible repeat (first | refine zk ?_ _ | refine zl ?_ | refine zj ?_ _)); refine zv (cs := #[.bool false, .string (⟨#[]⟩ : ByteArray), .string (⟨#[]⟩ : ByteArray), .int .i64 0, .int .i64 0, .int .i64 0, .int .i64 0, .int .i64 0]) ?_ 0 _ rfl; (with_reducible repeat (first | refine zk ?_ _ | refine zl ?_ | refine zj ?_ _)); exact zA.out⟩
             have n2_ : Aside0 (Below w.heap.size w ((((((((w14.setCell ⟨zB, 0, none⟩ (.bool ((rd_T108 l0_1 x3_2).f0))).setCell ⟨zB, 1, none⟩ (.string ((rd_T108 l0_1 x3_2).f1.f0))).setCell ⟨zB, 2, none⟩ (.string ((rd_T108 l0_1 x3_2).f1.f1))).setCell ⟨zB, 3, none⟩ (.int .i64 ((rd_T108 l0_1 x3_2).f1.f2))).setCell ⟨zB, 4, none⟩ (.int .i64 ((rd_T108 l0_1 x3_2).f1.f3))).setCell ⟨zB, 5, none⟩ (.int .i64 ((rd_T108 l0_1 x3_2).f1.f4))).setCell ⟨zB, 6, none⟩ (.int .i64 ((rd_T108 l0_1 x3_2).f1.f5))).setCell ⟨zB, 7, none⟩ (.int .i64 ((rd_T108 l0_1 x3_2).f1.f6)))) := ⟨by repeat (first | (with_reducible first | exact HB.out | apply zh | apply zf | apply zg | refine zd ?_ zF.out | refine zd ?_ zG.out) | exact HB.out)⟩
             (try clear zC)
             (try clear zA)
             (try clear HB)
             generalize ((((((((w14.setCell ⟨zB, 0, none⟩ (.bool ((rd_T108 l0_1 x3_2).f0))).setCell ⟨zB, 1, none⟩ (.string ((rd_T108 l0_1 x3_2).f1.f0))).setCell ⟨zB, 2, none⟩ (.string ((rd_T108 l0_1 x3_2).f1.f1))).setCell ⟨zB, 3, none⟩ (.int .i64 ((rd_T108 l0_1 x3_2).f1.f2))).setCell ⟨zB, 4, none⟩ (.int .i64 ((rd_T108 l0_1 x3_2).f1.f3))).setCell ⟨zB, 5, none⟩ (.int .i64 ((rd_T108 l0_1 x3_2).f1.f4))).setCell ⟨zB, 6, none⟩ (.int .i64 ((rd_T108 l0_1 x3_2).f1.f5))).setCell ⟨zB, 7, none⟩ (.int .i64 ((rd_T108 l0_1 x3_2).f1.f6))) = w23 at n0_ n1_ n2_ ⊢
             have zC := n0_
             have zA := n1_
             have HB := n2_
             clear n0_ n1_ n2_
             have n0_ := Aside0.mk (zl zC.out)
             have n1_ := Aside0.mk (zl zA.out)
             have n2_ := Aside0.mk (zg HB.out)
             clear zC
             clear zA
             clear HB
             have zC := n0_
             have zA := n1_
             have HB := n2_
             clear n0_ n1_ n2_
             have p146 : 0 ≤ ((ji20) : Int) := of_decide_eq_true (by with_reducible assumption)
             have q146 : (ji20) < (l0_1.length : Int) := of_decide_eq_true (by with_reducible assumption)
             obtain ⟨ad146, e146, hx146_0, hx146_1, hx146_2, hx146_3, hx146_4, hx146_5, hx146_6, hx146_7⟩ := at_T108 HR0_1.out (ji20) p146 q146
             have hw146_7 := hx146_7
             have hw146_6 := hx146_6
             have hw146_5 := hx146_5
             have hw146_4 := hx146_4
             have hw146_3 := hx146_3
             have hw146_2 := hx146_2
             have hw146_1 := hx146_1
             have hw146_0 := hx146_0
             obtain rfl : ad143 = ad146 := (by injection e146)
             replace hx146_0 := zb HB.out hx146_0
             replace hx146_1 := zb HB.out hx146_1
             replace hx146_2 := zb HB.out hx146_2
             replace hx146_3 := zb HB.out hx146_3
             replace hx146_4 := zb HB.out hx146_4
             replace hx146_5 := zb HB.out hx146_5
             replace hx146_6 := zb HB.out hx146_6
             replace hx146_7 := zb HB.out hx146_7
             replace p146 := eq_true p146
             replace q146 := eq_true q146
             refine start_ (n := 22) (S := fun w' => b108r w' zB (rd_T108 l0_1 x3_2) (w'.cell? ⟨zE, 0, none⟩ = some (.int .i64 a0_0) ∧ w'.cell? ⟨zE, 1, none⟩ = some (.slice (some ad143) l0_1.length c0_1) ∧ e108 w' (ad143.add (((ji20)).toNat * 8)) (rd_T108 l0_1 (ji20)))) (ds := []) #[false, false, false, false, false, false, false, false, false, false, false, false, false, false, false, false, false, false, false, false, false, false] (by kernel_rfl) rfl rfl ⟨(zc zA.out 0).trans rfl, (zc zA.out 1).trans rfl, (zc zA.out 2).trans rfl, (zc zA.out 3).trans rfl, (zc zA.out 4).trans rfl, (zc zA.out 5).trans rfl, (zc zA.out 6).trans rfl, (zc zA.out 7).trans rfl, (zc zC.out 0).trans rfl, (zc zC.out 1).trans rfl, (zb HB.out hw146_0), (zb HB.out hw146_1), (zb HB.out hw146_2), (zb HB.out hw146_3), (zb HB.out hw146_4), (zb HB.out hw146_5), (zb HB.out hw146_6), (zb HB.out hw146_7)⟩ (fun hHeld => ?_); refine with_tabW spec_ValidTxn.tab7 spec_ValidTxn.bits7 (fun HT_ HW_ => ?_)
             generalize w23.drew = w24 at zC zA HB hx146_0 hx146_1 hx146_2 hx146_3 hx146_4 hx146_5 hx146_6 hx146_7 hHeld ⊢
             refine pu 0 31 rfl rfl (zq HT_.out (by kernel_rfl)) (fun _ _ _ _ h => h) (by rfl) ⟨_, _, fun w' => by go_simp; rfl, by simp only [pt, ps, p0, p1, zo, zp]; rfl, ?_⟩
             refine ta 1 32 rfl rfl (take_ofW HT_.out HW_.out (by kernel_rfl)) (fun _ _ _ _ h => h) (by rfl) hHeld ⟨_, _, by rintro w' ⟨s0, s1, s2, s3, s4, s5, s6, s7, s8, s9, s10, s11, s12, s13, s14, s15, s16, s17⟩; go_simp; rfl, by simp only [pt, ps, p0, p1, zo, zp]; rfl, ?_⟩
             refine one_ (i := 2) (N := some 33) #[true, true, true, false, false, false, false, false, false, false, false, false, false, false, false, false, false, false, false, false, false, false] rfl rfl (one_of HT_.out (by kernel_rfl)) (by decide) (fun K hK => ?_)
             refine goes_ Tryd.func90 (by kernel_rfl) rfl #[.agg #[.string ((rd_T108 l0_1 x3_2).f1.f0), .string ((rd_T108 l0_1 x3_2).f1.f1), .int .i64 ((rd_T108 l0_1 x3_2).f1.f2), .int .i64 ((rd_T108 l0_1 x3_2).f1.f3), .int .i64 ((rd_T108 l0_1 x3_2).f1.f4), .int .i64 ((rd_T108 l0_1 x3_2).f1.f5), .int .i64 ((rd_T108 l0_1 x3_2).f1.f6)]] (by rfl) rfl rfl (by (try simp only [List.map_toArray, List.map_cons, List.map_nil]); first | done | rfl) ?_
             with_reducible refine (spec_l3ValidNode.calls k2 ((rd_T108 l0_1 x3_2).f1.f0) ((rd_T108 l0_1 x3_2).f1.f1) ((rd_T108 l0_1 x3_2).f1.f2) ((rd_T108 l0_1 x3_2).f1.f3) ((rd_T108 l0_1 x3_2).f1.f4) ((rd_T108 l0_1 x3_2).f1.f5) ((rd_T108 l0_1 x3_2).f1.f6) true _ A17.out).mono ?_
             rintro e w25 ⟨rfl, hb⟩
             refine ⟨_, rfl, ?_⟩
             have n0_ := Aside0.mk (zi (g := zE) (o := .cells #[.int .i64 a0_0, .slice (some ad143) l0_1.length c0_1] 55 (0, 0)) (BL zC.out) hb)
             have n1_ := Aside0.mk (zi (g := zB) (o := .cells #[.bool ((rd_T108 l0_1 x3_2).f0), .string ((rd_T108 l0_1 x3_2).f1.f0), .string ((rd_T108 l0_1 x3_2).f1.f1), .int .i64 ((rd_T108 l0_1 x3_2).f1.f2), .int .i64 ((rd_T108 l0_1 x3_2).f1.f3), .int .i64 ((rd_T108 l0_1 x3_2).f1.f4), .int .i64 ((rd_T108 l0_1 x3_2).f1.f5), .int .i64 ((rd_T108 l0_1 x3_2).f1.f6)] 108 (0, 0)) (BL zA.out) hb)
             have n2_ := Aside0.mk (zn (by repeat (first | (with_reducible first | exact HB.out | apply zh | apply zf | apply zg | refine zd ?_ zF.out | refine zd ?_ zG.out) | exact HB.out)) hb)
             clear zC
             clear zA
             clear HB
             have zC := n0_
             have zA := n1_
             have HB := n2_
             clear n0_ n1_ n2_
             (try clear hb)
             (try clear hb2)
             (try clear hk)
             (try clear hi)
             refine hK.out _ _ ⟨(zc zA.out 0).trans rfl, (zc zA.out 1).trans rfl, (zc zA.out 2).trans rfl, (zc zA.out 3).trans rfl, (zc zA.out 4).trans rfl, (zc zA.out 5).trans rfl, (zc zA.out 6).trans rfl, (zc zA.out 7).trans rfl, (zc zC.out 0).trans rfl, (zc zC.out 1).trans rfl, (zb HB.out hw146_0), (zb HB.out hw146_1), (zb HB.out hw146_2), (zb HB.out hw146_3), (zb HB.out hw146_4), (zb HB.out hw146_5), (zb HB.out hw146_6), (zb HB.out hw146_7)⟩ (fun hHeld => ?_)
             clear hK K
             refine norm_ (a' := ?_) ?_ ?_
             rotate_left
             ·show Act.put _ (some 33) _ = _
              simp only [pt, ps, p0, p1, zo, zp]
              rfl
             refine pu 3 34 rfl rfl (zq HT_.out (by kernel_rfl)) (fun _ _ _ _ h => h) (by rfl) ⟨_, _, fun w' => by go_simp; rfl, by simp only [pt, ps, p0, p1, zo, zp]; rfl, ?_⟩
             refine pu 4 35 rfl rfl (zq HT_.out (by kernel_rfl)) (fun _ _ _ _ h => h) (by rfl) ⟨_, _, fun w' => by go_simp; rfl, by simp only [pt, ps, p0, p1, zo, zp]; rfl, ?_⟩
             refine pu 5 36 rfl rfl (zq HT_.out (by kernel_rfl)) (fun _ _ _ _ h => h) (by rfl) ⟨_, _, fun w' => by go_simp; rfl, by simp only [pt, ps, p0, p1, zo, zp]; rfl, ?_⟩
             refine pu 6 37 rfl rfl (zq HT_.out (by kernel_rfl)) (fun _ _ _ _ h => h) (by rfl) ⟨_, _, fun w' => by go_simp; rfl, by simp only [pt, ps, p0, p1, zo, zp]; rfl, ?_⟩
             refine pu 7 38 rfl rfl (zq HT_.out (by kernel_rfl)) (fun _ _ _ _ h => h) (by rfl) ⟨_, _, fun w' => by go_simp; rfl, by simp only [pt, ps, p0, p1, zo, zp]; rfl, ?_⟩
             refine pu 8 39 rfl rfl (zq HT_.out (by kernel_rfl)) (fun _ _ _ _ h => h) (by rfl) ⟨_, _, fun w' => by go_simp; rfl, by simp only [pt, ps, p0, p1, zo, zp]; rfl, ?_⟩
             refine pu 9 40 rfl rfl (zq HT_.out (by kernel_rfl)) (fun _ _ _ _ h => h) (by rfl) ⟨_, _, fun w' => by go_simp; rfl, by simp only [pt, ps, p0, p1, zo, zp]; rfl, ?_⟩
             refine pu 11 42 rfl rfl (zq HT_.out (by kernel_rfl)) (fun _ _ _ _ h => h) (by rfl) ⟨_, _, fun w' => by go_simp; rfl, by simp only [pt, ps, p0, p1, zo, zp]; rfl, ?_⟩
             refine pu 13 44 rfl rfl (zq HT_.out (by kernel_rfl)) (fun _ _ _ _ h => h) (by rfl) ⟨_, _, fun w' => by go_simp; rfl, by simp only [pt, ps, p0, p1, zo, zp]; rfl, ?_⟩
             refine pu 14 45 rfl rfl (zq HT_.out (by kernel_rfl)) (fun _ _ _ _ h => h) (by rfl) ⟨_, _, fun w' => by go_simp; rfl, by simp only [pt, ps, p0, p1, zo, zp]; rfl, ?_⟩
             refine ta 10 41 rfl rfl (take_ofW HT_.out HW_.out (by kernel_rfl)) (fun _ _ _ _ h => h) (by rfl) hHeld ⟨_, _, by rintro w' ⟨s0, s1, s2, s3, s4, s5, s6, s7, s8, s9, s10, s11, s12, s13, s14, s15, s16, s17⟩; go_simp; rfl, by simp only [pt, ps, p0, p1, zo, zp]; rfl, ?_⟩
             refine ta 12 43 rfl rfl (take_ofW HT_.out HW_.out (by kernel_rfl)) (fun _ _ _ _ h => h) (by rfl) hHeld ⟨_, _, by rintro w' ⟨s0, s1, s2, s3, s4, s5, s6, s7, s8, s9, s10, s11, s12, s13, s14, s15, s16, s17⟩; go_simp; rfl, by simp only [pt, ps, p0, p1, zo, zp]; rfl, ?_⟩
             refine pu 15 46 rfl rfl (zq HT_.out (by kernel_rfl)) (fun _ _ _ _ h => h) (by rfl) ⟨_, _, fun w' => by go_simp; rfl, by simp only [pt, ps, p0, p1, zo, zp]; rfl, ?_⟩
             refine pu 16 47 rfl rfl (zq HT_.out (by kernel_rfl)) (fun _ _ _ _ h => h) (by rfl) ⟨_, _, fun w' => by go_simp; rfl, by simp only [pt, ps, p0, p1, zo, zp]; rfl, ?_⟩
             refine pu 17 48 rfl rfl (zq HT_.out (by kernel_rfl)) (fun _ _ _ _ h => h) (by rfl) ⟨_, _, fun w' => by go_simp; rfl, by simp only [pt, ps, p0, p1, zo, zp]; rfl, ?_⟩
             refine ta 18 49 rfl rfl (take_ofW HT_.out HW_.out (by kernel_rfl)) (fun _ _ _ _ h => h) (by rfl) hHeld ⟨_, _, by rintro w' ⟨s0, s1, s2, s3, s4, s5, s6, s7, s8, s9, s10, s11, s12, s13, s14, s15, s16, s17⟩; go_simp; rfl, by simp only [pt, ps, p0, p1, zo, zp]; rfl, ?_⟩
             refine pu 19 50 rfl rfl (zq HT_.out (by kernel_rfl)) (fun _ _ _ _ h => h) (by rfl) ⟨_, _, fun w' => by go_simp; rfl, by simp only [pt, ps, p0, p1, zo, zp]; rfl, ?_⟩
             refine pu 20 51 rfl rfl (zq HT_.out (by kernel_rfl)) (fun _ _ _ _ h => h) (by rfl) ⟨_, _, fun w' => by go_simp; rfl, by simp only [pt, ps, p0, p1, zo, zp]; rfl, ?_⟩
             refine pu 21 52 rfl rfl (zq HT_.out (by kernel_rfl)) (fun _ _ _ _ h => h) (by rfl) ⟨_, _, fun w' => by go_simp; rfl, by simp only [pt, ps, p0, p1, zo, zp]; rfl, ?_⟩
             refine done_ (done_of HT_.out (by kernel_rfl)) ?_
             try go_wp2
             go_meet
             case rel => exact ⟨_, (!(Op.bytesLess (((rd_T108 l0_1 (ji20)).f1.f0).toList) (((rd_T108 l0_1 x3_2).f1.f0).toList))), (by first | rfl | (simp; done) | (simp only [← hji20] <;> (first | rfl | simp)) | (simp [*]; done)), H', ⟨by have := HJ1.out; have := HK2.out; first | omega | exact Nat.le_refl _⟩, ⟨BL zC.out⟩, ⟨BL zA.out⟩, ⟨by repeat (first | (with_reducible first | exact HB.out | apply zh | apply zf | apply zg | refine zd ?_ zF.out | refine zd ?_ zG.out) | exact HB.out)⟩⟩
            ·rw [if_neg c22] at H
             exact absurd H (by simp)
           ·rw [if_neg c21] at H
            exact absurd H (by simp)
          ·rw [if_neg c19] at H
           have c19b0 : decide (0 < x3_2) = false := decide_eq_false c19
           clear c19
           (first | rw [c19b0] | (simp only [zo, zp]; rw [c19b0]) | skip)
           have H' := Aside0.mk H
           clear H
           try go_wp2
           have n0_ : Aside0 (((((((((w14.setCell ⟨zB, 0, none⟩ (.bool ((rd_T108 l0_1 x3_2).f0))).setCell ⟨zB, 1, none⟩ (.string ((rd_T108 l0_1 x3_2).f1.f0))).setCell ⟨zB, 2, none⟩ (.string ((rd_T108 l0_1 x3_2).f1.f1))).setCell ⟨zB, 3, none⟩ (.int .i64 ((rd_T108 l0_1 x3_2).f1.f2))).setCell ⟨zB, 4, none⟩ (.int .i64 ((rd_T108 l0_1 x3_2).f1.f3))).setCell ⟨zB, 5, none⟩ (.int .i64 ((rd_T108 l0_1 x3_2).f1.f4))).setCell ⟨zB, 6, none⟩ (.int .i64 ((rd_T108 l0_1 x3_2).f1.f5))).setCell ⟨zB, 7, none⟩ (.int .i64 ((rd_T108 l0_1 x3_2).f1.f6))).heap[zE]? = some (.cells #[.int .i64 a0_0, .slice (some ad143) l0_1.length c0_1] 55 (0, 0))) := ⟨by (with_reducible repeat (first | refine zk ?_ _ | refine zl ?_ | refine zj ?_ _)); refine zw ?_ zD.out _; (with_reducible repeat (first | refine zk ?_ _ | refine zl ?_ | refine zj ?_ _)); refine zw ?_ zD.out _; (with_reducible repeat (first | refine zk ?_ _ | refine zl ?_ | refine zj ?_ _)); refine zw ?_ zD.out _; (with_reducible repeat (first | refine zk ?_ _ | refine zl ?_ | refine zj ?_ _)); refine zw ?_ zD.out _; (with_reducible repeat (first | refine zk ?_ _ | refine zl ?_ | refine zj ?_ _)); refine zw ?_ zD.out _; (with_reducible repeat (first | refine zk ?_ _ | refine zl ?_ | refine zj ?_ _)); refine zw ?_ zD.out _; (with_reducible repeat (first | refine zk ?_ _ | refine zl ?_ | refine zj ?_ _)); refine zw ?_ zD.out _; (with_reducible repeat (first | refine zk ?_ _ | refine zl ?_ | refine zj ?_ _)); refine zw ?_ zD.out _; (with_reducible repeat (first | refine zk ?_ _ | refine zl ?_ | refine zj ?_ _)); exact zC.out⟩
           have n1_ : Aside0 (((((((((w14.setCell ⟨zB, 0, none⟩ (.bool ((rd_T108 l0_1 x3_2).f0))).setCell ⟨zB, 1, none⟩ (.string ((rd_T108 l0_1 x3_2).f1.f0))).setCell ⟨zB, 2, none⟩ (.string ((rd_T108 l0_1 x3_2).f1.f1))).setCell ⟨zB, 3, none⟩ (.int .i64 ((rd_T108 l0_1 x3_2).f1.f2))).setCell ⟨zB, 4, none⟩ (.int .i64 ((rd_T108 l0_1 x3_2).f1.f3))).setCell ⟨zB, 5, none⟩ (.int .i64 ((rd_T108 l0_1 x3_2).f1.f4))).setCell ⟨zB, 6, none⟩ (.int .i64 ((rd_T108 l0_1 x3_2).f1.f5))).setCell ⟨zB, 7, none⟩ (.int .i64 ((rd_T108 l0_1 x3_2).f1.f6))).heap[zB]? = some (.cells #[.bool ((rd_T108 l0_1 x3_2).f0), .string ((rd_T108 l0_1 x3_2).f1.f0), .string ((rd_T108 l0_1 x3_2).f1.f1), .int .i64 ((rd_T108 l0_1 x3_2).f1.f2), .int .i64 ((rd_T108 l0_1 x3_2).f1.f3), .int .i64 ((rd_T108 l0_1 x3_2).f1.f4), .int .i64 ((rd_T108 l0_1 x3_2).f1.f5), .int .i64 ((rd_T108 l0_1 x3_2).f1.f6)] 108 (0, 0))) := ⟨by (with_reducible repeat (first | refine zk ?_ _ | refine zl ?_ | refine zj ?_ _)); refine zv (cs := #[.bool ((rd_T108 l0_1 x3_2).f0), .string ((rd_T108 l0_1 x3_2).f1.f0), .string ((rd_T108 l0_1 x3_2).f1.f1), .int .i64 ((rd_T108 l0_1 x3_2).f1.f2), .int .i64 ((rd_T108 l0_1 x3_2).f1.f3), .int .i64 ((rd_T108 l0_1 x3_2).f1.f4), .int .i64 ((rd_T108 l0_1 x3_2).f1.f5), .int .i64 0]) ?_ 7 _ rfl; (with_reducible repeat (first | refine zk ?_ _ | refine zl ?_ | refine zj ?_ _)); refine zv (cs := #[.bool ((rd_T108 l0_1 x3_2).f0), .string ((rd_T108 l0_1 x3_2).f1.f0), .string ((rd_T108 l0_1 x3_2).f1.f1), .int .i64 ((rd_T108 l0_1 x3_2).f1.f2), .int .i64 ((rd_T108 l0_1 x3_2).f1.f3), .int .i64 ((rd_T108 l0_1 x3_2).f1.f4), .int .i64 0, .int .i64 0]) ?_ 6 _ rfl; (with_reducible repeat (first | refine zk ?_ _ | refine zl ?_ | refine zj ?_ _)); refine zv (cs := #[.bool ((rd_T108 l0_1 x3_2).f0), .string ((rd_T108 l0_1 x3_2).f1.f0), .string ((rd_T108 l0_1 x3_2).f1.f1), .int .i64 ((rd_T108 l0_1 x3_2).f1.f2), .int .i64 ((rd_T108 l0_1 x3_2).f1.f3), .int .i64 0, .int .i64 0, .int .i64 0]) ?_ 5 _ rfl; (with_reducible repeat (first | refine zk ?_ _ | refine zl ?_ | refine zj ?_ _)); refine zv (cs := #[.bool ((rd_T108 l0_1 x3_2).f0), .string ((rd_T108 l0_1 x3_2).f1.f0), .string ((rd_T108 l0_1 x3_2).f1.f1), .int .i64 ((rd_T108 l0_1 x3_2).f1.f2), .int .i64 0, .int .i64 0, .int .i64 0, .int .i64 0]) ?_ 4 _ rfl; (with_reducible repeat (first | refine zk ?_ _ | refine zl ?_ | refine zj ?_ _)); refine zv (cs := #[.bool ((rd_T108 l0_1 x3_2).f0), .string ((rd_T108 l0_1 x3_2).f1.f0), .string ((rd_T108 l0_1 x3_2).f1.f1), .int .i64 0, .int .i64 0, .int .i64 0, .int .i64 0, .int .i64 0]) ?_ 3 _ rfl; (with_reducible repeat (first | refine zk ?_ _ | refine zl ?_ | refine zj ?_ _)); refine zv (cs := #[.bool ((rd_T108 l0_1 x3_2).f0), .string ((rd_T108 l0_1 x3_2).f1.f0), .string (⟨#[]⟩ : ByteArray), .int .i64 0, .int .i64 0, .int .i64 0, .int .i64 0, .int .i64 0]) ?_ 2 _ rfl; (with_reducible repeat (first | refine zk ?_ _ | refine zl ?_ | refine zj ?_ _)); refine zv (cs := #[.bool ((rd_T108 l0_1 x3_2).f0), .string (⟨#[]⟩ : ByteArray), .string (⟨#[]⟩ : ByteArray), .int .i64 0, .int .i64 0, .int .i64 0, .int .i64 0, .int .i64 0]) ?_ 1 _ rfl; (with_reducible repeat (first | refine zk ?_ _ | refine zl ?_ | refine zj ?_ _)); refine zv (cs := #[.bool false, .string (⟨#[]⟩ : ByteArray), .string (⟨#[]⟩ : ByteArray), .int .i64 0, .int .i64 0, .int .i64 0, .int .i64 0, .int .i64 0]) ?_ 0 _ rfl; (with_reducible repeat (first | refine zk ?_ _ | refine zl ?_ | refine zj ?_ _)); exact zA.out⟩
           have n2_ : Aside0 (Below w.heap.size w ((((((((w14.setCell ⟨zB, 0, none⟩ (.bool ((rd_T108 l0_1 x3_2).f0))).setCell ⟨zB, 1, none⟩ (.string ((rd_T108 l0_1 x3_2).f1.f0))).setCell ⟨zB, 2, none⟩ (.string ((rd_T108 l0_1 x3_2).f1.f1))).setCell ⟨zB, 3, none⟩ (.int .i64 ((rd_T108 l0_1 x3_2).f1.f2))).setCell ⟨zB, 4, none⟩ (.int .i64 ((rd_T108 l0_1 x3_2).f1.f3))).setCell ⟨zB, 5, none⟩ (.int .i64 ((rd_T108 l0_1 x3_2).f1.f4))).setCell ⟨zB, 6, none⟩ (.int .i64 ((rd_T108 l0_1 x3_2).f1.f5))).setCell ⟨zB, 7, none⟩ (.int .i64 ((rd_T108 l0_1 x3_2).f1.f6)))) := ⟨by repeat (first | (with_reducible first | exact HB.out | apply zh | apply zf | apply zg | refine zd ?_ zF.out | refine zd ?_ zG.out) | exact HB.out)⟩
           (try clear zC)
           (try clear zA)
           (try clear HB)
           generalize ((((((((w14.setCell ⟨zB, 0, none⟩ (.bool ((rd_T108 l0_1 x3_2).f0))).setCell ⟨zB, 1, none⟩ (.string ((rd_T108 l0_1 x3_2).f1.f0))).setCell ⟨zB, 2, none⟩ (.string ((rd_T108 l0_1 x3_2).f1.f1))).setCell ⟨zB, 3, none⟩ (.int .i64 ((rd_T108 l0_1 x3_2).f1.f2))).setCell ⟨zB, 4, none⟩ (.int .i64 ((rd_T108 l0_1 x3_2).f1.f3))).setCell ⟨zB, 5, none⟩ (.int .i64 ((rd_T108 l0_1 x3_2).f1.f4))).setCell ⟨zB, 6, none⟩ (.int .i64 ((rd_T108 l0_1 x3_2).f1.f5))).setCell ⟨zB, 7, none⟩ (.int .i64 ((rd_T108 l0_1 x3_2).f1.f6))) = w26 at n0_ n1_ n2_ ⊢
           have zC := n0_
           have zA := n1_
           have HB := n2_
           clear n0_ n1_ n2_
           have n0_ := Aside0.mk (zl zC.out)
           have n1_ := Aside0.mk (zl zA.out)
           have n2_ := Aside0.mk (zg HB.out)
           clear zC
           clear zA
           clear HB
           have zC := n0_
           have zA := n1_
           have HB := n2_
           clear n0_ n1_ n2_
           refine start_ (n := 22) (S := fun w' => b108 w' zB (rd_T108 l0_1 x3_2)) (ds := []) #[false, false, false, false, false, false, false, false, false, false, false, false, false, false, false, false, false, false, false, false, false, false] (by kernel_rfl) rfl rfl ⟨(zc zA.out 0).trans rfl, (zc zA.out 1).trans rfl, (zc zA.out 2).trans rfl, (zc zA.out 3).trans rfl, (zc zA.out 4).trans rfl, (zc zA.out 5).trans rfl, (zc zA.out 6).trans rfl, (zc zA.out 7).trans rfl⟩ (fun hHeld => ?_); refine with_tabW spec_ValidTxn.tab7 spec_ValidTxn.bits7 (fun HT_ HW_ => ?_)
           generalize w26.drew = w27 at zC zA HB hHeld ⊢
           refine pu 0 31 rfl rfl (zq HT_.out (by kernel_rfl)) (fun _ _ _ _ h => h) (by rfl) ⟨_, _, fun w' => by go_simp; rfl, by simp only [pt, ps, p0, p1, zo, zp]; rfl, ?_⟩
           refine ta 1 32 rfl rfl (take_ofW HT_.out HW_.out (by kernel_rfl)) (fun _ _ _ _ h => h) (by rfl) hHeld ⟨_, _, by rintro w' ⟨s0, s1, s2, s3, s4, s5, s6, s7⟩; go_simp; rfl, by simp only [pt, ps, p0, p1, zo, zp]; rfl, ?_⟩
           refine one_ (i := 2) (N := some 33) #[true, true, true, false, false, false, false, false, false, false, false, false, false, false, false, false, false, false, false, false, false, false] rfl rfl (one_of HT_.out (by kernel_rfl)) (by decide) (fun K hK => ?_)
           refine goes_ Tryd.func90 (by kernel_rfl) rfl #[.agg #[.string ((rd_T108 l0_1 x3_2).f1.f0), .string ((rd_T108 l0_1 x3_2).f1.f1), .int .i64 ((rd_T108 l0_1 x3_2).f1.f2), .int .i64 ((rd_T108 l0_1 x3_2).f1.f3), .int .i64 ((rd_T108 l0_1 x3_2).f1.f4), .int .i64 ((rd_T108 l0_1 x3_2).f1.f5), .int .i64 ((rd_T108 l0_1 x3_2).f1.f6)]] (by rfl) rfl rfl (by (try simp only [List.map_toArray, List.map_cons, List.map_nil]); first | done | rfl) ?_
           with_reducible refine (spec_l3ValidNode.calls k2 ((rd_T108 l0_1 x3_2).f1.f0) ((rd_T108 l0_1 x3_2).f1.f1) ((rd_T108 l0_1 x3_2).f1.f2) ((rd_T108 l0_1 x3_2).f1.f3) ((rd_T108 l0_1 x3_2).f1.f4) ((rd_T108 l0_1 x3_2).f1.f5) ((rd_T108 l0_1 x3_2).f1.f6) true _ A17.out).mono ?_
           rintro e w28 ⟨rfl, hb⟩
           refine ⟨_, rfl, ?_⟩
           have n0_ := Aside0.mk (zi (g := zE) (o := .cells #[.int .i64 a0_0, .slice (some ad143) l0_1.length c0_1] 55 (0, 0)) (BL zC.out) hb)
           have n1_ := Aside0.mk (zi (g := zB) (o := .cells #[.bool ((rd_T108 l0_1 x3_2).f0), .string ((rd_T108 l0_1 x3_2).f1.f0), .string ((rd_T108 l0_1 x3_2).f1.f1), .int .i64 ((rd_T108 l0_1 x3_2).f1.f2), .int .i64 ((rd_T108 l0_1 x3_2).f1.f3), .int .i64 ((rd_T108 l0_1 x3_2).f1.f4), .int .i64 ((rd_T108 l0_1 x3_2).f1.f5), .int .i64 ((rd_T108 l0_1 x3_2).f1.f6)] 108 (0, 0)) (BL zA.out) hb)
           have n2_ := Aside0.mk (zn (by repeat (first | (with_reducible first | exact HB.out | apply zh | apply zf | apply zg | refine zd ?_ zF.out | refine zd ?_ zG.out) | exact HB.out)) hb)
           clear zC
           clear zA
           clear HB
           have zC := n0_
           have zA := n1_
           have HB := n2_
           clear n0_ n1_ n2_
           (try clear hb)
           (try clear hb2)
           (try clear hk)
           (try clear hi)
           refine hK.out _ _ ⟨(zc zA.out 0).trans rfl, (zc zA.out 1).trans rfl, (zc zA.out 2).trans rfl, (zc zA.out 3).trans rfl, (zc zA.out 4).trans rfl, (zc zA.out 5).trans rfl, (zc zA.out 6).trans rfl, (zc zA.out 7).trans rfl⟩ (fun hHeld => ?_)
           clear hK K
           refine norm_ (a' := ?_) ?_ ?_
           rotate_left
           ·show Act.put _ (some 33) _ = _
            simp only [pt, ps, p0, p1, zo, zp]
            rfl
           refine pu 3 34 rfl rfl (zq HT_.out (by kernel_rfl)) (fun _ _ _ _ h => h) (by rfl) ⟨_, _, fun w' => by go_simp; rfl, by simp only [pt, ps, p0, p1, zo, zp]; rfl, ?_⟩
           refine pu 4 35 rfl rfl (zq HT_.out (by kernel_rfl)) (fun _ _ _ _ h => h) (by rfl) ⟨_, _, fun w' => by go_simp; rfl, by simp only [pt, ps, p0, p1, zo, zp]; rfl, ?_⟩
           refine pu 5 36 rfl rfl (zq HT_.out (by kernel_rfl)) (fun _ _ _ _ h => h) (by rfl) ⟨_, _, fun w' => by go_simp; rfl, by simp only [pt, ps, p0, p1, zo, zp]; rfl, ?_⟩
           refine pu 6 37 rfl rfl (zq HT_.out (by kernel_rfl)) (fun _ _ _ _ h => h) (by rfl) ⟨_, _, fun w' => by go_simp; rfl, by simp only [pt, ps, p0, p1, zo, zp]; rfl, ?_⟩
           refine pu 7 38 rfl rfl (zq HT_.out (by kernel_rfl)) (fun _ _ _ _ h => h) (by rfl) ⟨_, _, fun w' => by go_simp; rfl, by simp only [pt, ps, p0, p1, zo, zp]; rfl, ?_⟩
           refine po 8 39 rfl rfl (zq HT_.out (by kernel_rfl)) (fun _ _ _ _ h => h) (by rfl) ⟨_, by simp only [pt, ps, p0, p1, zo, zp]; rfl, ?_⟩
           refine po 9 40 rfl rfl (zq HT_.out (by kernel_rfl)) (fun _ _ _ _ h => h) (by rfl) ⟨_, by simp only [pt, ps, p0, p1, zo, zp]; rfl, ?_⟩
           refine po 10 41 rfl rfl (zq HT_.out (by kernel_rfl)) (fun _ _ _ _ h => h) (by rfl) ⟨_, by simp only [pt, ps, p0, p1, zo, zp]; rfl, ?_⟩
           refine po 11 42 rfl rfl (zq HT_.out (by kernel_rfl)) (fun _ _ _ _ h => h) (by rfl) ⟨_, by simp only [pt, ps, p0, p1, zo, zp]; rfl, ?_⟩
           refine po 12 43 rfl rfl (zq HT_.out (by kernel_rfl)) (fun _ _ _ _ h => h) (by rfl) ⟨_, by simp only [pt, ps, p0, p1, zo, zp]; rfl, ?_⟩
           refine po 13 44 rfl rfl (zq HT_.out (by kernel_rfl)) (fun _ _ _ _ h => h) (by rfl) ⟨_, by simp only [pt, ps, p0, p1, zo, zp]; rfl, ?_⟩
           refine po 14 45 rfl rfl (zq HT_.out (by kernel_rfl)) (fun _ _ _ _ h => h) (by rfl) ⟨_, by simp only [pt, ps, p0, p1, zo, zp]; rfl, ?_⟩
           refine po 15 46 rfl rfl (zq HT_.out (by kernel_rfl)) (fun _ _ _ _ h => h) (by rfl) ⟨_, by simp only [pt, ps, p0, p1, zo, zp]; rfl, ?_⟩
           refine po 16 47 rfl rfl (zq HT_.out (by kernel_rfl)) (fun _ _ _ _ h => h) (by rfl) ⟨_, by simp only [pt, ps, p0, p1, zo, zp]; rfl, ?_⟩
           refine po 17 48 rfl rfl (zq HT_.out (by kernel_rfl)) (fun _ _ _ _ h => h) (by rfl) ⟨_, by simp only [pt, ps, p0, p1, zo, zp]; rfl, ?_⟩
           refine po 18 49 rfl rfl (zq HT_.out (by kernel_rfl)) (fun _ _ _ _ h => h) (by rfl) ⟨_, by simp only [pt, ps, p0, p1, zo, zp]; rfl, ?_⟩
           refine po 19 50 rfl rfl (zq HT_.out (by kernel_rfl)) (fun _ _ _ _ h => h) (by rfl) ⟨_, by simp only [pt, ps, p0, p1, zo, zp]; rfl, ?_⟩
           refine pu 20 51 rfl rfl (zq HT_.out (by kernel_rfl)) (fun _ _ _ _ h => h) (by rfl) ⟨_, _, fun w' => by go_simp; rfl, by simp only [pt, ps, p0, p1, zo, zp]; rfl, ?_⟩
           refine pu 21 52 rfl rfl (zq HT_.out (by kernel_rfl)) (fun _ _ _ _ h => h) (by rfl) ⟨_, _, fun w' => by go_simp; rfl, by simp only [pt, ps, p0, p1, zo, zp]; rfl, ?_⟩
           refine done_ (done_of HT_.out (by kernel_rfl)) ?_
           try go_wp2
           go_meet
           case rel => exact ⟨_, (false), (by first | rfl | (simp [*]; done)), H', ⟨by have := HJ1.out; have := HK2.out; first | omega | exact Nat.le_refl _⟩, ⟨BL zC.out⟩, ⟨BL zA.out⟩, ⟨by repeat (first | (with_reducible first | exact HB.out | apply zh | apply zf | apply zg | refine zd ?_ zF.out | refine zd ?_ zG.out) | exact HB.out)⟩⟩
         ·replace c18 := Bool.eq_false_iff.mpr c18
          subst c18
          rw [if_neg (show ¬ (false = true) by decide)] at H
          have H' := Aside0.mk H
          clear H
          try go_wp2
          have n0_ : Aside0 (((((((((w14.setCell ⟨zB, 0, none⟩ (.bool ((rd_T108 l0_1 x3_2).f0))).setCell ⟨zB, 1, none⟩ (.string ((rd_T108 l0_1 x3_2).f1.f0))).setCell ⟨zB, 2, none⟩ (.string ((rd_T108 l0_1 x3_2).f1.f1))).setCell ⟨zB, 3, none⟩ (.int .i64 ((rd_T108 l0_1 x3_2).f1.f2))).setCell ⟨zB, 4, none⟩ (.int .i64 ((rd_T108 l0_1 x3_2).f1.f3))).setCell ⟨zB, 5, none⟩ (.int .i64 ((rd_T108 l0_1 x3_2).f1.f4))).setCell ⟨zB, 6, none⟩ (.int .i64 ((rd_T108 l0_1 x3_2).f1.f5))).setCell ⟨zB, 7, none⟩ (.int .i64 ((rd_T108 l0_1 x3_2).f1.f6))).heap[zE]? = some (.cells #[.int .i64 a0_0, .slice (some ad143) l0_1.length c0_1] 55 (0, 0))) := ⟨by (with_reducible repeat (first | refine zk ?_ _ | refine zl ?_ | refine zj ?_ _)); refine zw ?_ zD.out _; (with_reducible repeat (first | refine zk ?_ _ | refine zl ?_ | refine zj ?_ _)); refine zw ?_ zD.out _; (with_reducible repeat (first | refine zk ?_ _ | refine zl ?_ | refine zj ?_ _)); refine zw ?_ zD.out _; (with_reducible repeat (first | refine zk ?_ _ | refine zl ?_ | refine zj ?_ _)); refine zw ?_ zD.out _; (with_reducible repeat (first | refine zk ?_ _ | refine zl ?_ | refine zj ?_ _)); refine zw ?_ zD.out _; (with_reducible repeat (first | refine zk ?_ _ | refine zl ?_ | refine zj ?_ _)); refine zw ?_ zD.out _; (with_reducible repeat (first | refine zk ?_ _ | refine zl ?_ | refine zj ?_ _)); refine zw ?_ zD.out _; (with_reducible repeat (first | refine zk ?_ _ | refine zl ?_ | refine zj ?_ _)); refine zw ?_ zD.out _; (with_reducible repeat (first | refine zk ?_ _ | refine zl ?_ | refine zj ?_ _)); exact zC.out⟩
          have n1_ : Aside0 (((((((((w14.setCell ⟨zB, 0, none⟩ (.bool ((rd_T108 l0_1 x3_2).f0))).setCell ⟨zB, 1, none⟩ (.string ((rd_T108 l0_1 x3_2).f1.f0))).setCell ⟨zB, 2, none⟩ (.string ((rd_T108 l0_1 x3_2).f1.f1))).setCell ⟨zB, 3, none⟩ (.int .i64 ((rd_T108 l0_1 x3_2).f1.f2))).setCell ⟨zB, 4, none⟩ (.int .i64 ((rd_T108 l0_1 x3_2).f1.f3))).setCell ⟨zB, 5, none⟩ (.int .i64 ((rd_T108 l0_1 x3_2).f1.f4))).setCell ⟨zB, 6, none⟩ (.int .i64 ((rd_T108 l0_1 x3_2).f1.f5))).setCell ⟨zB, 7, none⟩ (.int .i64 ((rd_T108 l0_1 x3_2).f1.f6))).heap[zB]? = some (.cells #[.bool ((rd_T108 l0_1 x3_2).f0), .string ((rd_T108 l0_1 x3_2).f1.f0), .string ((rd_T108 l0_1 x3_2).f1.f1), .int .i64 ((rd_T108 l0_1 x3_2).f1.f2), .int .i64 ((rd_T108 l0_1 x3_2).f1.f3), .int .i64 ((rd_T108 l0_1 x3_2).f1.f4), .int .i64 ((rd_T108 l0_1 x3_2).f1.f5), .int .i64 ((rd_T108 l0_1 x3_2).f1.f6)] 108 (0, 0))) := ⟨by (with_reducible repeat (first | refine zk ?_ _ | refine zl ?_ | refine zj ?_ _)); refine zv (cs := #[.bool ((rd_T108 l0_1 x3_2).f0), .string ((rd_T108 l0_1 x3_2).f1.f0), .string ((rd_T108 l0_1 x3_2).f1.f1), .int .i64 ((rd_T108 l0_1 x3_2).f1.f2), .int .i64 ((rd_T108 l0_1 x3_2).f1.f3), .int .i64 ((rd_T108 l0_1 x3_2).f1.f4), .int .i64 ((rd_T108 l0_1 x3_2).f1.f5), .int .i64 0]) ?_ 7 _ rfl; (with_reducible repeat (first | refine zk ?_ _ | refine zl ?_ | refine zj ?_ _)); refine zv (cs := #[.bool ((rd_T108 l0_1 x3_2).f0), .string ((rd_T108 l0_1 x3_2).f1.f0), .string ((rd_T108 l0_1 x3_2).f1.f1), .int .i64 ((rd_T108 l0_1 x3_2).f1.f2), .int .i64 ((rd_T108 l0_1 x3_2).f1.f3), .int .i64 ((rd_T108 l0_1 x3_2).f1.f4), .int .i64 0, .int .i64 0]) ?_ 6 _ rfl; (with_reducible repeat (first | refine zk ?_ _ | refine zl ?_ | refine zj ?_ _)); refine zv (cs := #[.bool ((rd_T108 l0_1 x3_2).f0), .string ((rd_T108 l0_1 x3_2).f1.f0), .string ((rd_T108 l0_1 x3_2).f1.f1), .int .i64 ((rd_T108 l0_1 x3_2).f1.f2), .int .i64 ((rd_T108 l0_1 x3_2).f1.f3), .int .i64 0, .int .i64 0, .int .i64 0]) ?_ 5 _ rfl; (with_reducible repeat (first | refine zk ?_ _ | refine zl ?_ | refine zj ?_ _)); refine zv (cs := #[.bool ((rd_T108 l0_1 x3_2).f0), .string ((rd_T108 l0_1 x3_2).f1.f0), .string ((rd_T108 l0_1 x3_2).f1.f1), .int .i64 ((rd_T108 l0_1 x3_2).f1.f2), .int .i64 0, .int .i64 0, .int .i64 0, .int .i64 0]) ?_ 4 _ rfl; (with_reducible repeat (first | refine zk ?_ _ | refine zl ?_ | refine zj ?_ _)); refine zv (cs := #[.bool ((rd_T108 l0_1 x3_2).f0), .string ((rd_T108 l0_1 x3_2).f1.f0), .string ((rd_T108 l0_1 x3_2).f1.f1), .int .i64 0, .int .i64 0, .int .i64 0, .int .i64 0, .int .i64 0]) ?_ 3 _ rfl; (with_reducible repeat (first | refine zk ?_ _ | refine zl ?_ | refine zj ?_ _)); refine zv (cs := #[.bool ((rd_T108 l0_1 x3_2).f0), .string ((rd_T108 l0_1 x3_2).f1.f0), .string (⟨#[]⟩ : ByteArray), .int .i64 0, .int .i64 0, .int .i64 0, .int .i64 0, .int .i64 0]) ?_ 2 _ rfl; (with_reducible repeat (first | refine zk ?_ _ | refine zl ?_ | refine zj ?_ _)); refine zv (cs := #[.bool ((rd_T108 l0_1 x3_2).f0), .string (⟨#[]⟩ : ByteArray), .string (⟨#[]⟩ : ByteArray), .int .i64 0, .int .i64 0, .int .i64 0, .int .i64 0, .int .i64 0]) ?_ 1 _ rfl; (with_reducible repeat (first | refine zk ?_ _ | refine zl ?_ | refine zj ?_ _)); refine zv (cs := #[.bool false, .string (⟨#[]⟩ : ByteArray), .string (⟨#[]⟩ : ByteArray), .int .i64 0, .int .i64 0, .int .i64 0, .int .i64 0, .int .i64 0]) ?_ 0 _ rfl; (with_reducible repeat (first | refine zk ?_ _ | refine zl ?_ | refine zj ?_ _)); exact zA.out⟩
          have n2_ : Aside0 (Below w.heap.size w ((((((((w14.setCell ⟨zB, 0, none⟩ (.bool ((rd_T108 l0_1 x3_2).f0))).setCell ⟨zB, 1, none⟩ (.string ((rd_T108 l0_1 x3_2).f1.f0))).setCell ⟨zB, 2, none⟩ (.string ((rd_T108 l0_1 x3_2).f1.f1))).setCell ⟨zB, 3, none⟩ (.int .i64 ((rd_T108 l0_1 x3_2).f1.f2))).setCell ⟨zB, 4, none⟩ (.int .i64 ((rd_T108 l0_1 x3_2).f1.f3))).setCell ⟨zB, 5, none⟩ (.int .i64 ((rd_T108 l0_1 x3_2).f1.f4))).setCell ⟨zB, 6, none⟩ (.int .i64 ((rd_T108 l0_1 x3_2).f1.f5))).setCell ⟨zB, 7, none⟩ (.int .i64 ((rd_T108 l0_1 x3_2).f1.f6)))) := ⟨by repeat (first | (with_reducible first | exact HB.out | apply zh | apply zf | apply zg | refine zd ?_ zF.out | refine zd ?_ zG.out) | exact HB.out)⟩
          (try clear zC)
          (try clear zA)
          (try clear HB)
          generalize ((((((((w14.setCell ⟨zB, 0, none⟩ (.bool ((rd_T108 l0_1 x3_2).f0))).setCell ⟨zB, 1, none⟩ (.string ((rd_T108 l0_1 x3_2).f1.f0))).setCell ⟨zB, 2, none⟩ (.string ((rd_T108 l0_1 x3_2).f1.f1))).setCell ⟨zB, 3, none⟩ (.int .i64 ((rd_T108 l0_1 x3_2).f1.f2))).setCell ⟨zB, 4, none⟩ (.int .i64 ((rd_T108 l0_1 x3_2).f1.f3))).setCell ⟨zB, 5, none⟩ (.int .i64 ((rd_T108 l0_1 x3_2).f1.f4))).setCell ⟨zB, 6, none⟩ (.int .i64 ((rd_T108 l0_1 x3_2).f1.f5))).setCell ⟨zB, 7, none⟩ (.int .i64 ((rd_T108 l0_1 x3_2).f1.f6))) = w29 at n0_ n1_ n2_ ⊢
          have zC := n0_
          have zA := n1_
          have HB := n2_
          clear n0_ n1_ n2_
          have n0_ := Aside0.mk (zl zC.out)
          have n1_ := Aside0.mk (zl zA.out)
          have n2_ := Aside0.mk (zg HB.out)
          clear zC
          clear zA
          clear HB
          have zC := n0_
          have zA := n1_
          have HB := n2_
          clear n0_ n1_ n2_
          refine start_ (n := 22) (S := fun w' => b108 w' zB (rd_T108 l0_1 x3_2)) (ds := []) #[false, false, false, false, false, false, false, false, false, false, false, false, false, false, false, false, false, false, false, false, false, false] (by kernel_rfl) rfl rfl ⟨(zc zA.out 0).trans rfl, (zc zA.out 1).trans rfl, (zc zA.out 2).trans rfl, (zc zA.out 3).trans rfl, (zc zA.out 4).trans rfl, (zc zA.out 5).trans rfl, (zc zA.out 6).trans rfl, (zc zA.out 7).trans rfl⟩ (fun hHeld => ?_); refine with_tabW spec_ValidTxn.tab7 spec_ValidTxn.bits7 (fun HT_ HW_ => ?_)
          generalize w29.drew = w30 at zC zA HB hHeld ⊢
          refine pu 0 31 rfl rfl (zq HT_.out (by kernel_rfl)) (fun _ _ _ _ h => h) (by rfl) ⟨_, _, fun w' => by go_simp; rfl, by simp only [pt, ps, p0, p1, zo, zp]; rfl, ?_⟩
          refine ta 1 32 rfl rfl (take_ofW HT_.out HW_.out (by kernel_rfl)) (fun _ _ _ _ h => h) (by rfl) hHeld ⟨_, _, by rintro w' ⟨s0, s1, s2, s3, s4, s5, s6, s7⟩; go_simp; rfl, by simp only [pt, ps, p0, p1, zo, zp]; rfl, ?_⟩
          refine one_ (i := 2) (N := some 33) #[true, true, true, false, false, false, false, false, false, false, false, false, false, false, false, false, false, false, false, false, false, false] rfl rfl (one_of HT_.out (by kernel_rfl)) (by decide) (fun K hK => ?_)
          refine goes_ Tryd.func90 (by kernel_rfl) rfl #[.agg #[.string ((rd_T108 l0_1 x3_2).f1.f0), .string ((rd_T108 l0_1 x3_2).f1.f1), .int .i64 ((rd_T108 l0_1 x3_2).f1.f2), .int .i64 ((rd_T108 l0_1 x3_2).f1.f3), .int .i64 ((rd_T108 l0_1 x3_2).f1.f4), .int .i64 ((rd_T108 l0_1 x3_2).f1.f5), .int .i64 ((rd_T108 l0_1 x3_2).f1.f6)]] (by rfl) rfl rfl (by (try simp only [List.map_toArray, List.map_cons, List.map_nil]); first | done | rfl) ?_
          with_reducible refine (spec_l3ValidNode.calls k2 ((rd_T108 l0_1 x3_2).f1.f0) ((rd_T108 l0_1 x3_2).f1.f1) ((rd_T108 l0_1 x3_2).f1.f2) ((rd_T108 l0_1 x3_2).f1.f3) ((rd_T108 l0_1 x3_2).f1.f4) ((rd_T108 l0_1 x3_2).f1.f5) ((rd_T108 l0_1 x3_2).f1.f6) false _ A17.out).mono ?_
          rintro e w31 ⟨rfl, hb⟩
          refine ⟨_, rfl, ?_⟩
          have n0_ := Aside0.mk (zi (g := zE) (o := .cells #[.int .i64 a0_0, .slice (some ad143) l0_1.length c0_1] 55 (0, 0)) (BL zC.out) hb)
          have n1_ := Aside0.mk (zi (g := zB) (o := .cells #[.bool ((rd_T108 l0_1 x3_2).f0), .string ((rd_T108 l0_1 x3_2).f1.f0), .string ((rd_T108 l0_1 x3_2).f1.f1), .int .i64 ((rd_T108 l0_1 x3_2).f1.f2), .int .i64 ((rd_T108 l0_1 x3_2).f1.f3), .int .i64 ((rd_T108 l0_1 x3_2).f1.f4), .int .i64 ((rd_T108 l0_1 x3_2).f1.f5), .int .i64 ((rd_T108 l0_1 x3_2).f1.f6)] 108 (0, 0)) (BL zA.out) hb)
          have n2_ := Aside0.mk (zn (by repeat (first | (with_reducible first | exact HB.out | apply zh | apply zf | apply zg | refine zd ?_ zF.out | refine zd ?_ zG.out) | exact HB.out)) hb)
          clear zC
          clear zA
          clear HB
          have zC := n0_
          have zA := n1_
          have HB := n2_
          clear n0_ n1_ n2_
          (try clear hb)
          (try clear hb2)
          (try clear hk)
          (try clear hi)
          refine hK.out _ _ ⟨(zc zA.out 0).trans rfl, (zc zA.out 1).trans rfl, (zc zA.out 2).trans rfl, (zc zA.out 3).trans rfl, (zc zA.out 4).trans rfl, (zc zA.out 5).trans rfl, (zc zA.out 6).trans rfl, (zc zA.out 7).trans rfl⟩ (fun hHeld => ?_)
          clear hK K
          refine norm_ (a' := ?_) ?_ ?_
          rotate_left
          ·show Act.put _ (some 33) _ = _
           simp only [pt, ps, p0, p1, zo, zp]
           rfl
          refine pu 3 34 rfl rfl (zq HT_.out (by kernel_rfl)) (fun _ _ _ _ h => h) (by rfl) ⟨_, _, fun w' => by go_simp; rfl, by simp only [pt, ps, p0, p1, zo, zp]; rfl, ?_⟩
          refine pu 4 35 rfl rfl (zq HT_.out (by kernel_rfl)) (fun _ _ _ _ h => h) (by rfl) ⟨_, _, fun w' => by go_simp; rfl, by simp only [pt, ps, p0, p1, zo, zp]; rfl, ?_⟩
          refine po 5 36 rfl rfl (zq HT_.out (by kernel_rfl)) (fun _ _ _ _ h => h) (by rfl) ⟨_, by simp only [pt, ps, p0, p1, zo, zp]; rfl, ?_⟩
          refine po 6 37 rfl rfl (zq HT_.out (by kernel_rfl)) (fun _ _ _ _ h => h) (by rfl) ⟨_, by simp only [pt, ps, p0, p1, zo, zp]; rfl, ?_⟩
          refine po 7 38 rfl rfl (zq HT_.out (by kernel_rfl)) (fun _ _ _ _ h => h) (by rfl) ⟨_, by simp only [pt, ps, p0, p1, zo, zp]; rfl, ?_⟩
          refine po 8 39 rfl rfl (zq HT_.out (by kernel_rfl)) (fun _ _ _ _ h => h) (by rfl) ⟨_, by simp only [pt, ps, p0, p1, zo, zp]; rfl, ?_⟩
          refine po 9 40 rfl rfl (zq HT_.out (by kernel_rfl)) (fun _ _ _ _ h => h) (by rfl) ⟨_, by simp only [pt, ps, p0, p1, zo, zp]; rfl, ?_⟩
          refine po 10 41 rfl rfl (zq HT_.out (by kernel_rfl)) (fun _ _ _ _ h => h) (by rfl) ⟨_, by simp only [pt, ps, p0, p1, zo, zp]; rfl, ?_⟩
          refine po 11 42 rfl rfl (zq HT_.out (by kernel_rfl)) (fun _ _ _ _ h => h) (by rfl) ⟨_, by simp only [pt, ps, p0, p1, zo, zp]; rfl, ?_⟩
          refine po 12 43 rfl rfl (zq HT_.out (by kernel_rfl)) (fun _ _ _ _ h => h) (by rfl) ⟨_, by simp only [pt, ps, p0, p1, zo, zp]; rfl, ?_⟩
          refine po 13 44 rfl rfl (zq HT_.out (by kernel_rfl)) (fun _ _ _ _ h => h) (by rfl) ⟨_, by simp only [pt, ps, p0, p1, zo, zp]; rfl, ?_⟩
          refine po 14 45 rfl rfl (zq HT_.out (by kernel_rfl)) (fun _ _ _ _ h => h) (by rfl) ⟨_, by simp only [pt, ps, p0, p1, zo, zp]; rfl, ?_⟩
          refine po 15 46 rfl rfl (zq HT_.out (by kernel_rfl)) (fun _ _ _ _ h => h) (by rfl) ⟨_, by simp only [pt, ps, p0, p1, zo, zp]; rfl, ?_⟩
          refine po 16 47 rfl rfl (zq HT_.out (by kernel_rfl)) (fun _ _ _ _ h => h) (by rfl) ⟨_, by simp only [pt, ps, p0, p1, zo, zp]; rfl, ?_⟩
          refine po 17 48 rfl rfl (zq HT_.out (by kernel_rfl)) (fun _ _ _ _ h => h) (by rfl) ⟨_, by simp only [pt, ps, p0, p1, zo, zp]; rfl, ?_⟩
          refine po 18 49 rfl rfl (zq HT_.out (by kernel_rfl)) (fun _ _ _ _ h => h) (by rfl) ⟨_, by simp only [pt, ps, p0, p1, zo, zp]; rfl, ?_⟩
          refine po 19 50 rfl rfl (zq HT_.out (by kernel_rfl)) (fun _ _ _ _ h => h) (by rfl) ⟨_, by simp only [pt, ps, p0, p1, zo, zp]; rfl, ?_⟩
          refine po 20 51 rfl rfl (zq HT_.out (by kernel_rfl)) (fun _ _ _ _ h => h) (by rfl) ⟨_, by simp only [pt, ps, p0, p1, zo, zp]; rfl, ?_⟩
          refine pu 21 52 rfl rfl (zq HT_.out (by kernel_rfl)) (fun _ _ _ _ h => h) (by rfl) ⟨_, _, fun w' => by go_simp; rfl, by simp only [pt, ps, p0, p1, zo, zp]; rfl, ?_⟩
          refine done_ (done_of HT_.out (by kernel_rfl)) ?_
          try go_wp2
          go_meet
          case rel => exact ⟨_, (true), (by first | rfl | (simp [*]; done)), H', ⟨by have := HJ1.out; have := HK2.out; first | omega | exact Nat.le_refl _⟩, ⟨BL zC.out⟩, ⟨BL zA.out⟩, ⟨by repeat (first | (with_reducible first | exact HB.out | apply zh | apply zf | apply zg | refine zd ?_ zF.out | refine zd ?_ zG.out) | exact HB.out)⟩⟩
        case rest =>
         clear HC12
         try clear c1
         try clear p1
         try clear q1
         try clear hx1
         try clear c2
         try clear p2
         try clear c9
         try clear p14
         try clear q14
         try clear hx14
         try clear c18
         try clear c19
         try clear c19b0
         try clear c21
         try clear c22
         try clear c22b0
         try clear hx146_0
         try clear hx146_1
         try clear hx146_2
         try clear hx146_3
         try clear hx146_4
         try clear hx146_5
         try clear hx146_6
         try clear hx146_7
         try clear p146
         try clear q146
         obtain ⟨kq, x52_11, rfl, HA, HJ11, zC, zA, HB⟩ := hcut
         cases kq with
         | zero => exact absurd HA.out (by simp [spec_ValidTxn.j2])
         | succ kj11 =>
          have H := HA.out
          clear HA
          simp only [spec_ValidTxn.j2] at H
          by_cases c32 : x52_11 = true
          ·subst c32
           rw [if_pos rfl] at H
           obtain rfl := Option.some.inj H
           go_wp2
           go_ret
           exact ⟨by first | rfl | (simp [*] <;> rfl), by repeat (first | (with_reducible first | exact HB.out | apply zh | apply zf | apply zg | refine zd ?_ zF.out | refine zd ?_ zG.out) | exact HB.out)⟩
          ·replace c32 := Bool.eq_false_iff.mpr c32
           subst c32
           rw [if_neg (show ¬ (false = true) by decide)] at H
           by_cases c33 : ((rd_T108 l0_1 x3_2).f0) = true
           ·rw [if_pos c33] at H
            have c33b0 : ((rd_T108 l0_1 x3_2).f0) = true := c33
            clear c33
            by_cases c34 : (!(((rd_T108 l0_1 x3_2).f1.f1).toList == ([] : List UInt8)) || (!(((rd_T108 l0_1 x3_2).f1.f2) == 0) || (!(((rd_T108 l0_1 x3_2).f1.f3) == 0) || (!(((rd_T108 l0_1 x3_2).f1.f4) == 0) || (!(((rd_T108 l0_1 x3_2).f1.f5) == 0) || (!(((rd_T108 l0_1 x3_2).f1.f6) == 0))))))) = true
            ·rw [if_pos c34] at H
             have c34b0 : (!(((rd_T108 l0_1 x3_2).f1.f1).toList).isEmpty || (!(((rd_T108 l0_1 x3_2).f1.f2) == 0) || (!(((rd_T108 l0_1 x3_2).f1.f3) == 0) || (!(((rd_T108 l0_1 x3_2).f1.f4) == 0) || (!(((rd_T108 l0_1 x3_2).f1.f5) == 0) || (!(((rd_T108 l0_1 x3_2).f1.f6) == 0))))))) = true := by simp only [← Go.Proofs.YtfiojiokmkiflaaDoorH.nil_isEmpty]; exact c34
             clear c34
             obtain rfl := Option.some.inj H
             have zqc := zH.out
             have zrc := zD.out
             have zob : wc.cell? ⟨zB, 0, none⟩ = some (.bool ((rd_T108 l0_1 x3_2).f0)) := (zc zA.out 0).trans rfl
             have zpb : wc.cell? ⟨zB, 1, none⟩ = some (.string ((rd_T108 l0_1 x3_2).f1.f0)) := (zc zA.out 1).trans rfl
             have zqb : wc.cell? ⟨zB, 2, none⟩ = some (.string ((rd_T108 l0_1 x3_2).f1.f1)) := (zc zA.out 2).trans rfl
             have zrb : wc.cell? ⟨zB, 3, none⟩ = some (.int .i64 ((rd_T108 l0_1 x3_2).f1.f2)) := (zc zA.out 3).trans rfl
             have zsb : wc.cell? ⟨zB, 4, none⟩ = some (.int .i64 ((rd_T108 l0_1 x3_2).f1.f3)) := (zc zA.out 4).trans rfl
             have ztb : wc.cell? ⟨zB, 5, none⟩ = some (.int .i64 ((rd_T108 l0_1 x3_2).f1.f4)) := (zc zA.out 5).trans rfl
             have zub : wc.cell? ⟨zB, 6, none⟩ = some (.int .i64 ((rd_T108 l0_1 x3_2).f1.f5)) := (zc zA.out 6).trans rfl
             have zvb : wc.cell? ⟨zB, 7, none⟩ = some (.int .i64 ((rd_T108 l0_1 x3_2).f1.f6)) := (zc zA.out 7).trans rfl
             have zwb := ze zA.out 0
             have zxb := ze zA.out 1
             have zyb := ze zA.out 2
             have zzb := ze zA.out 3
             have zAb := ze zA.out 4
             have zBb := ze zA.out 5
             have zCb := ze zA.out 6
             have zDb := ze zA.out 7
             go_wp2
             go_ret
             exact ⟨by first | rfl | (simp [*] <;> rfl), by repeat (first | (with_reducible first | exact HB.out | apply zh | apply zf | apply zg | refine zd ?_ zF.out | refine zd ?_ zG.out) | exact HB.out)⟩
            ·rw [if_neg c34] at H
             have c34b0 : (!(((rd_T108 l0_1 x3_2).f1.f1).toList).isEmpty || (!(((rd_T108 l0_1 x3_2).f1.f2) == 0) || (!(((rd_T108 l0_1 x3_2).f1.f3) == 0) || (!(((rd_T108 l0_1 x3_2).f1.f4) == 0) || (!(((rd_T108 l0_1 x3_2).f1.f5) == 0) || (!(((rd_T108 l0_1 x3_2).f1.f6) == 0))))))) = false := by simp only [← Go.Proofs.YtfiojiokmkiflaaDoorH.nil_isEmpty]; simpa using c34
             clear c34
             have H' := Aside0.mk H
             clear H
             have zsc := zH.out
             have ztc := zD.out
             have zEb : wc.cell? ⟨zB, 0, none⟩ = some (.bool ((rd_T108 l0_1 x3_2).f0)) := (zc zA.out 0).trans rfl
             have zFb : wc.cell? ⟨zB, 1, none⟩ = some (.string ((rd_T108 l0_1 x3_2).f1.f0)) := (zc zA.out 1).trans rfl
             have zGb : wc.cell? ⟨zB, 2, none⟩ = some (.string ((rd_T108 l0_1 x3_2).f1.f1)) := (zc zA.out 2).trans rfl
             have zHb : wc.cell? ⟨zB, 3, none⟩ = some (.int .i64 ((rd_T108 l0_1 x3_2).f1.f2)) := (zc zA.out 3).trans rfl
             have zIb : wc.cell? ⟨zB, 4, none⟩ = some (.int .i64 ((rd_T108 l0_1 x3_2).f1.f3)) := (zc zA.out 4).trans rfl
             have zJb : wc.cell? ⟨zB, 5, none⟩ = some (.int .i64 ((rd_T108 l0_1 x3_2).f1.f4)) := (zc zA.out 5).trans rfl
             have zKb : wc.cell? ⟨zB, 6, none⟩ = some (.int .i64 ((rd_T108 l0_1 x3_2).f1.f5)) := (zc zA.out 6).trans rfl
             have zLb : wc.cell? ⟨zB, 7, none⟩ = some (.int .i64 ((rd_T108 l0_1 x3_2).f1.f6)) := (zc zA.out 7).trans rfl
             have zMb := ze zA.out 0
             have zNb := ze zA.out 1
             have zOb := ze zA.out 2
             have zPb := ze zA.out 3
             have zQb := ze zA.out 4
             have zRb := ze zA.out 5
             have zSb := ze zA.out 6
             have zTb := ze zA.out 7
             go_wp2
             go_roundg kj11
             case measure => have := HJ1.out; have := HK2.out; have := HJ11.out; omega
             case rel => exact ⟨(wrap64 (x3_2 + 1)), (by first | rfl | (simp [*]; done)), H', ⟨by have := HJ1.out; have := HK2.out; have := HJ11.out; omega⟩, ⟨BL zC.out⟩, ⟨by repeat (first | (with_reducible first | exact HB.out | apply zh | apply zf | apply zg | refine zd ?_ zF.out | refine zd ?_ zG.out) | exact HB.out)⟩⟩
           ·rw [if_neg c33] at H
            have c33b0 : ((rd_T108 l0_1 x3_2).f0) = false := by simpa using c33
            clear c33
            have H' := Aside0.mk H
            clear H
            have zuc := zH.out
            have zvc := zD.out
            have zUb : wc.cell? ⟨zB, 0, none⟩ = some (.bool ((rd_T108 l0_1 x3_2).f0)) := (zc zA.out 0).trans rfl
            have zVb : wc.cell? ⟨zB, 1, none⟩ = some (.string ((rd_T108 l0_1 x3_2).f1.f0)) := (zc zA.out 1).trans rfl
            have zWb : wc.cell? ⟨zB, 2, none⟩ = some (.string ((rd_T108 l0_1 x3_2).f1.f1)) := (zc zA.out 2).trans rfl
            have zXb : wc.cell? ⟨zB, 3, none⟩ = some (.int .i64 ((rd_T108 l0_1 x3_2).f1.f2)) := (zc zA.out 3).trans rfl
            have zYb : wc.cell? ⟨zB, 4, none⟩ = some (.int .i64 ((rd_T108 l0_1 x3_2).f1.f3)) := (zc zA.out 4).trans rfl
            have zZb : wc.cell? ⟨zB, 5, none⟩ = some (.int .i64 ((rd_T108 l0_1 x3_2).f1.f4)) := (zc zA.out 5).trans rfl
            have zac : wc.cell? ⟨zB, 6, none⟩ = some (.int .i64 ((rd_T108 l0_1 x3_2).f1.f5)) := (zc zA.out 6).trans rfl
            have zbc : wc.cell? ⟨zB, 7, none⟩ = some (.int .i64 ((rd_T108 l0_1 x3_2).f1.f6)) := (zc zA.out 7).trans rfl
            have zcc := ze zA.out 0
            have zdc := ze zA.out 1
            have zec := ze zA.out 2
            have zfc := ze zA.out 3
            have zgc := ze zA.out 4
            have zhc := ze zA.out 5
            have zic := ze zA.out 6
            have zjc := ze zA.out 7
            go_wp2
            go_roundg kj11
            case measure => have := HJ1.out; have := HK2.out; have := HJ11.out; omega
            case rel => exact ⟨(wrap64 (x3_2 + 1)), (by first | rfl | (simp [*]; done)), H', ⟨by have := HJ1.out; have := HK2.out; have := HJ11.out; omega⟩, ⟨BL zC.out⟩, ⟨by repeat (first | (with_reducible first | exact HB.out | apply zh | apply zf | apply zg | refine zd ?_ zF.out | refine zd ?_ zG.out) | exact HB.out)⟩⟩
       ·rw [if_neg c11] at H
        exact absurd H (by simp)
      ·rw [if_neg c10] at H
       have c10b0 : decide (x3_2 < (l0_1.length : Int)) = false := decide_eq_false c10
       clear c10
       obtain rfl := Option.some.inj H
       have zkc : wr.cell? ⟨zE, 0, none⟩ = some (.int .i64 a0_0) := (zc zC.out 0).trans rfl
       have zlc : wr.cell? ⟨zE, 1, none⟩ = some (.slice A0_1 l0_1.length c0_1) := (zc zC.out 1).trans rfl
       have zmc := ze zC.out 0
       have znc := ze zC.out 1
       go_wp2
       go_ret
       exact ⟨by first | rfl | (simp [*] <;> rfl), by repeat (first | (with_reducible first | exact HB.out | apply zh | apply zf | apply zg | refine zd ?_ zF.out) | exact HB.out)⟩

def spec_l3Without.l0 : Nat → List (S77) → ByteArray → List (S77) → Int → Option ((List (S77)))
 | 0, _, _, _, _ => none
 | k + 1, x0, x1, x5, x6 => if x6 < (x0.length : Int) then (if 0 ≤ x6 then (if ((rd_T77 x0 x6).f0).toList = x1.toList then (spec_l3Without.l0 k x0 x1 x5 (wrap64 (x6 + 1))) else (if x5.length < 1954687338268 then (spec_l3Without.l0 k x0 x1 (x5 ++ [(⟨(rd_T77 x0 x6).f0, (rd_T77 x0 x6).f1, (rd_T77 x0 x6).f2, (rd_T77 x0 x6).f3, (rd_T77 x0 x6).f4, (rd_T77 x0 x6).f5, (rd_T77 x0 x6).f6⟩ : S77)]) (wrap64 (x6 + 1))) else (none))) else (none)) else (some x5)
def spec_l3Without.f (k : Nat) (l0 : List (S77)) (a1 : ByteArray) : Option ((List (S77))) := spec_l3Without.l0 k l0 a1 (([] : List (S77))) 0
theorem spec_l3Without.mono_l : ∀ k, (∀ y0 y1 y2 y3, LeO (spec_l3Without.l0 k y0 y1 y2 y3) (spec_l3Without.l0 (k + 1) y0 y1 y2 y3))
 | 0 => fun _ _ _ _ r h => by simp [spec_l3Without.l0] at h
 | k + 1 => by
  have ih0 := spec_l3Without.mono_l k
  ·intro y0 y1 y2 y3
   unfold spec_l3Without.l0
   repeat' first
   | (with_reducible exact ih0 _ _ _ _)
   | (with_reducible exact LeO.refl _)
   | (with_reducible exact LeO.none _)
   | (with_reducible refine LeO.ite ?_ ?_)
   | (with_reducible refine LeO.bind ?_ (fun _ => ?_))
   | exact ih0 _ _ _ _
   | exact LeO.none _
   | refine LeO.ite ?_ ?_
   | refine LeO.bind ?_ (fun _ => ?_)
theorem spec_l3Without.mono : ∀ a0 a1 k, LeO (spec_l3Without.f k a0 a1) (spec_l3Without.f (k + 1) a0 a1) := by
 intro a0 a1 k
 have ih0 := spec_l3Without.mono_l k
 unfold spec_l3Without.f
 repeat' first
   | (with_reducible exact ih0 _ _ _ _)
   | (with_reducible exact LeO.refl _)
   | (with_reducible exact LeO.none _)
   | (with_reducible refine LeO.ite ?_ ?_)
   | (with_reducible refine LeO.bind ?_ (fun _ => ?_))
   | exact ih0 _ _ _ _
   | exact LeO.none _
   | refine LeO.ite ?_ ?_
   | refine LeO.bind ?_ (fun _ => ?_)
set_option maxHeartbeats 8000000 in
set_option maxRecDepth 100000 in
theorem spec_l3Without.calls (k : Nat) (A0 : Option Addr) (c0 : Nat) (l0 : List (S77)) (a1 : ByteArray) (r : List (S77)) (w : World) (hr0 : Kd.C k77 w A0 l0.length l0) (hc0 : l0.length ≤ c0) (h : spec_l3Without.f k l0 a1 = some r) :
  Calls Tryd.prog 59 #[.slice A0 l0.length c0, .string a1] w fun e w' => ∃ v0_ : Value, e = .returned (v0_) ∧ Kd.R k77 77 w' w.heap.size (fun _ => True) v0_ r ∧ Below w.heap.size w w' := by
 have hu77 := Tryd.underlying77
 have HR0 := Aside0.mk hr0
 have HC0 := Aside0.mk hc0
 clear hr0 hc0
 have HB := Aside0.mk (Below.refl w.heap.size w)
 have H : (spec_l3Without.l0 k l0 a1 (([] : List (S77))) 0) = some r := h
 clear h
 obtain ⟨y147, hy147⟩ : ∃ y_ : List (S77), y_ = (([] : List (S77))) := ⟨_, rfl⟩
 replace H : (spec_l3Without.l0 k l0 a1 y147 0) = some r := by first | (rw [hy147]; with_reducible exact H) | (have H2_ := (Option.bind_some _ _).symm.trans H; rw [hy147]; with_reducible exact H2_) | (have H2_ := (Option.bind_some _ _).symm.trans H; with_reducible exact H2_) | with_reducible exact H | (rw [hy147]; exact H) | exact H
 have Ny147 := Aside0.mk hy147
 clear hy147
 have H' := Aside0.mk H
 clear H
 go_enter Tryd.func59, Tryd.ntmps59
 go_wp2_with (first | ((with_reducible refine zu (N := 7) rfl ?_); refine Kd.R_lit k77 _ 77 ?hg (N := 7) ?hd (xs := ([] : List (S77))) (inner := []) (ok := fun _ => True) (okp := fun _ => True) ?hr ?hp (fun _ hk => hk) trivial (Below.refl _ _) (Nat.le_refl _) (by simp) ?_; (case hd => rfl); (case hg => rfl); (case hr => first | (go_simp; done) | (go_simp; rfl)); (case hp => exact (Reps.none _ _)); intro v148 w3 zB hb hg_ hnew_; clear hg_ hnew_; (first | rw [← Ny147.out] at zB | (simp only [Int.reduceToNat] at zB; rw [← Ny147.out] at zB)); have n0_ := Aside0.mk (Kd.R_lower zB (zm (by exact bl HB.out))); have n1_ := Aside0.mk (zn (by exact bl HB.out) hb); clear HB; have zC := n0_; have HB := n1_; clear n0_ n1_; clear hb zB))
 go_loopg [5, 6] k (fun kq v5 v6 w' => ∃ (x5_1 : List (S77)) (x6_1 : Int), v6 = .int .i64 x6_1 ∧ Aside0 (spec_l3Without.l0 kq l0 a1 x5_1 x6_1 = some r) ∧ Aside0 (kq ≤ k) ∧ Aside0 (Kd.R k77 77 w' w.heap.size (fun _ => True) v5 x5_1) ∧ Aside0 (Below w.heap.size w w'))
 case atStart => exact ⟨(y147), (0), (by first | rfl | (simp [*]; done)), H', ⟨Nat.le_refl _⟩, ⟨RL zC.out⟩, ⟨by repeat (first | (with_reducible first | exact HB.out | apply zh | apply zf | apply zg) | exact HB.out)⟩⟩
 case round =>
  clear H'
  try clear p2
  obtain ⟨x5_1, x6_1, rfl, HA, HK1, zA, HB⟩ := hrel
  cases gk with
  | zero => exact absurd HA.out (by simp [spec_l3Without.l0])
  | succ k1 =>
   have H := HA.out
   clear HA
   simp only [spec_l3Without.l0] at H
   by_cases c5 : x6_1 < (l0.length : Int)
   ·rw [if_pos c5] at H
    have c5b0 : decide (x6_1 < (l0.length : Int)) = true := decide_eq_true c5
    clear c5
    by_cases c6 : 0 ≤ x6_1
    ·rw [if_pos c6] at H
     have c6b0 : decide (0 ≤ x6_1) = true := decide_eq_true c6
     clear c6
     by_cases c7 : ((rd_T77 l0 x6_1).f0).toList = a1.toList
     ·rw [if_pos c7] at H
      have c7b0 : (((rd_T77 l0 x6_1).f0).toList == a1.toList) = true := beq_iff_eq.mpr c7
      have c7b1 : (((rd_T77 l0 x6_1).f0).toList != a1.toList) = false := bne_eq_false_iff_eq.mpr c7
      clear c7
      have H' := Aside0.mk H
      clear H
      have p150 : 0 ≤ (x6_1 : Int) := of_decide_eq_true (by with_reducible assumption)
      have q150 : x6_1 < (l0.length : Int) := of_decide_eq_true (by with_reducible assumption)
      obtain ⟨ad150, e150, hx150_0, hx150_1, hx150_2, hx150_3, hx150_4, hx150_5, hx150_6⟩ := at_T77 (Kd.C_below HR0.out HB.out) x6_1 p150 q150
      cases e150
      replace p150 := eq_true p150
      replace q150 := eq_true q150
      go_wp2
      go_roundg k1
      case measure => have := HK1.out; omega
      case rel => exact ⟨(x5_1), (wrap64 (x6_1 + 1)), (by first | rfl | (simp [*]; done)), H', ⟨by have := HK1.out; omega⟩, ⟨RL zA.out⟩, ⟨by repeat (first | (with_reducible first | exact HB.out | apply zh | apply zf | apply zg) | exact HB.out)⟩⟩
     ·rw [if_neg c7] at H
      have c7b0 : (((rd_T77 l0 x6_1).f0).toList == a1.toList) = false := beq_eq_false_iff_ne.mpr c7
      have c7b1 : (((rd_T77 l0 x6_1).f0).toList != a1.toList) = true := bne_iff_ne.mpr c7
      by_cases c8 : x5_1.length < 1954687338268
      ·rw [if_pos c8] at H
       have LMc8 := Aside0.mk c8
       clear c8
       obtain ⟨y152, hy152⟩ : ∃ y_ : List (S77), y_ = (x5_1 ++ [(⟨(rd_T77 l0 x6_1).f0, (rd_T77 l0 x6_1).f1, (rd_T77 l0 x6_1).f2, (rd_T77 l0 x6_1).f3, (rd_T77 l0 x6_1).f4, (rd_T77 l0 x6_1).f5, (rd_T77 l0 x6_1).f6⟩ : S77)]) := ⟨_, rfl⟩
       replace H : (spec_l3Without.l0 k1 l0 a1 y152 (wrap64 (x6_1 + 1))) = some r := by first | (rw [hy152]; with_reducible exact H) | (have H2_ := (Option.bind_some _ _).symm.trans H; rw [hy152]; with_reducible exact H2_) | (have H2_ := (Option.bind_some _ _).symm.trans H; with_reducible exact H2_) | with_reducible exact H | (rw [hy152]; exact H) | exact H
       have Ny152 := Aside0.mk hy152
       clear hy152
       have H' := Aside0.mk H
       clear H
       have p150 : 0 ≤ (x6_1 : Int) := of_decide_eq_true (by with_reducible assumption)
       have q150 : x6_1 < (l0.length : Int) := of_decide_eq_true (by with_reducible assumption)
       obtain ⟨ad150, e150, hx150_0, hx150_1, hx150_2, hx150_3, hx150_4, hx150_5, hx150_6⟩ := at_T77 (Kd.C_below HR0.out HB.out) x6_1 p150 q150
       cases e150
       replace p150 := eq_true p150
       replace q150 := eq_true q150
       have p151 : 0 ≤ (x6_1 : Int) := of_decide_eq_true (by with_reducible assumption)
       have q151 : x6_1 < (l0.length : Int) := of_decide_eq_true (by with_reducible assumption)
       obtain ⟨ad151, e151, hx151_0, hx151_1, hx151_2, hx151_3, hx151_4, hx151_5, hx151_6⟩ := at_T77 HR0.out x6_1 p151 q151
       obtain rfl : ad150 = ad151 := (by injection e151)
       replace hx151_0 := zb HB.out hx151_0
       replace hx151_1 := zb HB.out hx151_1
       replace hx151_2 := zb HB.out hx151_2
       replace hx151_3 := zb HB.out hx151_3
       replace hx151_4 := zb HB.out hx151_4
       replace hx151_5 := zb HB.out hx151_5
       replace hx151_6 := zb HB.out hx151_6
       replace p151 := eq_true p151
       replace q151 := eq_true q151
       go_wp2_with (first | ((with_reducible refine gate_builtin (b := .append) (xs := #[.tmp 21, .tmp 26]) rfl ?_); at_builtin; refine Kd.R_append k77 (w0 := w) w.heap.size rfl (.tmp 21) (.tmp 26) 23 77 (.agg #[(.string ⟨#[]⟩), (.string ⟨#[]⟩), (.int .i64 0), (.int .i64 0), (.int .i64 0), (.int .i64 0), (.int .i64 0)]) 72 rfl Tryd.underlying23 info77 rfl (by decide) (by omega) u5 x5_1 (⟨(rd_T77 l0 x6_1).f0, (rd_T77 l0 x6_1).f1, (rd_T77 l0 x6_1).f2, (rd_T77 l0 x6_1).f3, (rd_T77 l0 x6_1).f4, (rd_T77 l0 x6_1).f5, (rd_T77 l0 x6_1).f6⟩ : S77) [.string ((rd_T77 l0 x6_1).f0), .string ((rd_T77 l0 x6_1).f1), .int .i64 ((rd_T77 l0 x6_1).f2), .int .i64 ((rd_T77 l0 x6_1).f3), .int .i64 ((rd_T77 l0 x6_1).f4), .int .i64 ((rd_T77 l0 x6_1).f5), .int .i64 ((rd_T77 l0 x6_1).f6)] (fun _ => True) (fun _ => False) rfl rfl ?aP (fun _ hk => hk.elim) ?aF ?aO ?aB ?aS ?aL ?_; (case aP => exact k77_mkM _ _ _ (⟨(rd_T77 l0 x6_1).f0, (rd_T77 l0 x6_1).f1, (rd_T77 l0 x6_1).f2, (rd_T77 l0 x6_1).f3, (rd_T77 l0 x6_1).f4, (rd_T77 l0 x6_1).f5, (rd_T77 l0 x6_1).f6⟩ : S77)); (case aB => exact (by exact bl HB.out)); (case aF => exact (fun _ _ => trivial)); (case aO => exact (RL zA.out)); (case aS => exact (zm (by exact bl HB.out))); (case aL => have := LMc8.out; omega); intro v153 w9 ho hb hg hat; rw [← Ny152.out] at ho; have n0_ := Aside0.mk (hb); have n1_ := Aside0.mk (ho); clear HB; clear zA; have HB := n0_; have zD := n1_; clear n0_ n1_; clear ho hb hg hat))
       go_roundg k1
       case measure => have := HK1.out; omega
       case rel => exact ⟨(y152), (wrap64 (x6_1 + 1)), (by first | rfl | (simp [*]; done)), H', ⟨by have := HK1.out; omega⟩, ⟨RL zD.out⟩, ⟨by repeat (first | (with_reducible first | exact HB.out | apply zh | apply zf | apply zg) | exact HB.out)⟩⟩
      ·rw [if_neg c8] at H
       exact absurd H (by simp)
    ·rw [if_neg c6] at H
     exact absurd H (by simp)
   ·rw [if_neg c5] at H
    have c5b0 : decide (x6_1 < (l0.length : Int)) = false := decide_eq_false c5
    clear c5
    obtain rfl := Option.some.inj H
    go_wp2
    go_ret
    exact ⟨_, by first | rfl | (simp [*] <;> rfl), RL zA.out, by repeat (first | (with_reducible first | exact HB.out | apply zh | apply zf | apply zg) | exact HB.out)⟩

mutual
def spec_l3With.l0 : Nat → List (S77) → List (S77) → Bool → Int → ByteArray → ByteArray → Int → Int → Int → Int → Int → Option ((List (S77)))
 | 0, _, _, _, _, _, _, _, _, _, _, _ => none
 | k + 1, x0, x5, x6, x7, x156000, x156001, x156002, x156003, x156004, x156005, x156006 => if x7 < (x0.length : Int) then (if x6 = true then (spec_l3With.j1 k x0 x5 x6 x7 false x156000 x156001 x156002 x156003 x156004 x156005 x156006) else (if 0 ≤ x7 then (spec_l3With.j1 k x0 x5 x6 x7 (!(Op.bytesLess (((rd_T77 x0 x7).f0).toList) x156000.toList)) x156000 x156001 x156002 x156003 x156004 x156005 x156006) else (none))) else (if x6 = true then (some x5) else (if x5.length < 1954687338268 then (some (x5 ++ [(⟨x156000, x156001, x156002, x156003, x156004, x156005, x156006⟩ : S77)])) else (none)))
def spec_l3With.j1 : Nat → List (S77) → List (S77) → Bool → Int → Bool → ByteArray → ByteArray → Int → Int → Int → Int → Int → Option ((List (S77)))
 | 0, _, _, _, _, _, _, _, _, _, _, _, _ => none
 | k + 1, x0, x5, x6, x7, x26, x156000, x156001, x156002, x156003, x156004, x156005, x156006 => if x26 = true then (if x5.length < 1954687338268 then ((some (x5 ++ [(⟨x156000, x156001, x156002, x156003, x156004, x156005, x156006⟩ : S77)] : List (S77))).bind fun y163 => (if 0 ≤ x7 then (if x7 < (x0.length : Int) then (if ((rd_T77 x0 x7).f0).toList = x156000.toList then (spec_l3With.l0 k x0 y163 true (wrap64 (x7 + 1)) x156000 x156001 x156002 x156003 x156004 x156005 x156006) else (if y163.length < 1954687338268 then (spec_l3With.l0 k x0 (y163 ++ [(⟨(rd_T77 x0 x7).f0, (rd_T77 x0 x7).f1, (rd_T77 x0 x7).f2, (rd_T77 x0 x7).f3, (rd_T77 x0 x7).f4, (rd_T77 x0 x7).f5, (rd_T77 x0 x7).f6⟩ : S77)]) true (wrap64 (x7 + 1)) x156000 x156001 x156002 x156003 x156004 x156005 x156006) else (none))) else (none)) else (none))) else (none)) else (if 0 ≤ x7 then (if x7 < (x0.length : Int) then (if ((rd_T77 x0 x7).f0).toList = x156000.toList then (spec_l3With.l0 k x0 x5 x6 (wrap64 (x7 + 1)) x156000 x156001 x156002 x156003 x156004 x156005 x156006) else (if x5.length < 1954687338268 then (spec_l3With.l0 k x0 (x5 ++ [(⟨(rd_T77 x0 x7).f0, (rd_T77 x0 x7).f1, (rd_T77 x0 x7).f2, (rd_T77 x0 x7).f3, (rd_T77 x0 x7).f4, (rd_T77 x0 x7).f5, (rd_T77 x0 x7).f6⟩ : S77)]) x6 (wrap64 (x7 + 1)) x156000 x156001 x156002 x156003 x156004 x156005 x156006) else (none))) else (none)) else (none))
end
def spec_l3With.f (k : Nat) (l0 : List (S77)) (a1_0 : ByteArray) (a1_1 : ByteArray) (a1_2 : Int) (a1_3 : Int) (a1_4 : Int) (a1_5 : Int) (a1_6 : Int) : Option ((List (S77))) := spec_l3With.l0 k l0 (([] : List (S77))) false 0 a1_0 a1_1 a1_2 a1_3 a1_4 a1_5 a1_6
theorem spec_l3With.mono_l : ∀ k, (∀ y0 y1 y2 y3 y4 y5 y6 y7 y8 y9 y10, LeO (spec_l3With.l0 k y0 y1 y2 y3 y4 y5 y6 y7 y8 y9 y10) (spec_l3With.l0 (k + 1) y0 y1 y2 y3 y4 y5 y6 y7 y8 y9 y10)) ∧ (∀ y0 y1 y2 y3 y4 y5 y6 y7 y8 y9 y10 y11, LeO (spec_l3With.j1 k y0 y1 y2 y3 y4 y5 y6 y7 y8 y9 y10 y11) (spec_l3With.j1 (k + 1) y0 y1 y2 y3 y4 y5 y6 y7 y8 y9 y10 y11))
 | 0 => ⟨fun _ _ _ _ _ _ _ _ _ _ _ r h => by simp [spec_l3With.l0] at h, fun _ _ _ _ _ _ _ _ _ _ _ _ r h => by simp [spec_l3With.j1] at h⟩
 | k + 1 => by
  obtain ⟨ih0, ih1⟩ := spec_l3With.mono_l k
  refine ⟨?_, ?_⟩
  ·intro y0 y1 y2 y3 y4 y5 y6 y7 y8 y9 y10
   unfold spec_l3With.l0
   repeat' first
   | (with_reducible exact ih0 _ _ _ _ _ _ _ _ _ _ _)
   | (with_reducible exact ih1 _ _ _ _ _ _ _ _ _ _ _ _)
   | (with_reducible exact LeO.refl _)
   | (with_reducible exact LeO.none _)
   | (with_reducible refine LeO.ite ?_ ?_)
   | (with_reducible refine LeO.bind ?_ (fun _ => ?_))
   | exact ih0 _ _ _ _ _ _ _ _ _ _ _
   | exact ih1 _ _ _ _ _ _ _ _ _ _ _ _
   | exact LeO.none _
   | refine LeO.ite ?_ ?_
   | refine LeO.bind ?_ (fun _ => ?_)
  ·intro y0 y1 y2 y3 y4 y5 y6 y7 y8 y9 y10 y11
   unfold spec_l3With.j1
   repeat' first
   | (with_reducible exact ih0 _ _ _ _ _ _ _ _ _ _ _)
   | (with_reducible exact ih1 _ _ _ _ _ _ _ _ _ _ _ _)
   | (with_reducible exact LeO.refl _)
   | (with_reducible exact LeO.none _)
   | (with_reducible refine LeO.ite ?_ ?_)
   | (with_reducible refine LeO.bind ?_ (fun _ => ?_))
   | exact ih0 _ _ _ _ _ _ _ _ _ _ _
   | exact ih1 _ _ _ _ _ _ _ _ _ _ _ _
   | exact LeO.none _
   | refine LeO.ite ?_ ?_
   | refine LeO.bind ?_ (fun _ => ?_)
theorem spec_l3With.mono : ∀ a0 a1 a2 a3 a4 a5 a6 a7 k, LeO (spec_l3With.f k a0 a1 a2 a3 a4 a5 a6 a7) (spec_l3With.f (k + 1) a0 a1 a2 a3 a4 a5 a6 a7) := by
 intro a0 a1 a2 a3 a4 a5 a6 a7 k
 obtain ⟨ih0, ih1⟩ := spec_l3With.mono_l k
 unfold spec_l3With.f
 repeat' first
   | (with_reducible exact ih0 _ _ _ _ _ _ _ _ _ _ _)
   | (with_reducible exact ih1 _ _ _ _ _ _ _ _ _ _ _ _)
   | (with_reducible exact LeO.refl _)
   | (with_reducible exact LeO.none _)
   | (with_reducible refine LeO.ite ?_ ?_)
   | (with_reducible refine LeO.bind ?_ (fun _ => ?_))
   | exact ih0 _ _ _ _ _ _ _ _ _ _ _
   | exact ih1 _ _ _ _ _ _ _ _ _ _ _ _
   | exact LeO.none _
   | refine LeO.ite ?_ ?_
   | refine LeO.bind ?_ (fun _ => ?_)
set_option maxHeartbeats 8000000 in
set_option maxRecDepth 100000 in
theorem spec_l3With.calls (k : Nat) (A0 : Option Addr) (c0 : Nat) (l0 : List (S77)) (a1_0 : ByteArray) (a1_1 : ByteArray) (a1_2 : Int) (a1_3 : Int) (a1_4 : Int) (a1_5 : Int) (a1_6 : Int) (r : List (S77)) (w : World) (hr0 : Kd.C k77 w A0 l0.length l0) (hc0 : l0.length ≤ c0) (h : spec_l3With.f k l0 a1_0 a1_1 a1_2 a1_3 a1_4 a1_5 a1_6 = some r) :
  Calls Tryd.prog 60 #[.slice A0 l0.length c0, .agg #[.string a1_0, .string a1_1, .int .i64 a1_2, .int .i64 a1_3, .int .i64 a1_4, .int .i64 a1_5, .int .i64 a1_6]] w fun e w' => ∃ v0_ : Value, e = .returned (v0_) ∧ Kd.R k77 77 w' w.heap.size (fun _ => True) v0_ r ∧ Below w.heap.size w w' := by
 have hu77 := Tryd.underlying77
 have HR0 := Aside0.mk hr0
 have HC0 := Aside0.mk hc0
 clear hr0 hc0
 have HB := Aside0.mk (Below.refl w.heap.size w)
 have H : (spec_l3With.l0 k l0 (([] : List (S77))) false 0 a1_0 a1_1 a1_2 a1_3 a1_4 a1_5 a1_6) = some r := h
 clear h
 obtain ⟨y156, hy156⟩ : ∃ y_ : List (S77), y_ = (([] : List (S77))) := ⟨_, rfl⟩
 replace H : (spec_l3With.l0 k l0 y156 false 0 a1_0 a1_1 a1_2 a1_3 a1_4 a1_5 a1_6) = some r := by first | (rw [hy156]; with_reducible exact H) | (have H2_ := (Option.bind_some _ _).symm.trans H; rw [hy156]; with_reducible exact H2_) | (have H2_ := (Option.bind_some _ _).symm.trans H; with_reducible exact H2_) | with_reducible exact H | (rw [hy156]; exact H) | exact H
 have Ny156 := Aside0.mk hy156
 clear hy156
 have H' := Aside0.mk H
 clear H
 go_enter Tryd.func60, Tryd.ntmps60
 go_wp2_with (first | ((with_reducible refine zu (N := 3) rfl ?_); refine zy ?hg (N := 3) ?hd (cs := #[.string a1_0, .string a1_1, .int .i64 a1_2, .int .i64 a1_3, .int .i64 a1_4, .int .i64 a1_5, .int .i64 a1_6]) (t := 77) ?hr ?_; (case hd => rfl); (case hg => rfl); (case hr => first | (go_simp; done) | (go_simp; rfl)); intro zB hg w3 hbox hb; have n0_ := Aside0.mk (zn (by exact bl HB.out) hb); have n1_ := Aside0.mk (hbox); have n2_ := Aside0.mk ((by rw [hg]; exact (zm (by exact bl HB.out)) : w.heap.size ≤ zB)); have n3_ := Aside0.mk ((by rw [hg]; exact (zm (by exact bl HB.out)) : w.heap.size ≤ zB)); clear HB; have HB := n0_; have zA := n1_; have GW155 := n2_; have zD := n3_; clear n0_ n1_ n2_ n3_; clear hb hbox hg) | ((with_reducible refine zu (N := 8) rfl ?_); refine Kd.R_lit k77 _ 77 ?hg (N := 8) ?hd (xs := ([] : List (S77))) (inner := []) (ok := fun _ => True) (okp := fun _ => True) ?hr ?hp (fun _ hk => hk) trivial (Below.refl _ _) (Nat.le_refl _) (by simp) ?_; (case hd => rfl); (case hg => rfl); (case hr => first | (go_simp; done) | (go_simp; rfl)); (case hp => exact (Reps.none _ _)); intro v157 w4 zF hb hg_ hnew_; clear hg_ hnew_; (first | rw [← Ny156.out] at zF | (simp only [Int.reduceToNat] at zF; rw [← Ny156.out] at zF)); have n0_ := Aside0.mk (Kd.R_lower (Kd.R_newB zF (g := zB) (o := .cells #[.string a1_0, .string a1_1, .int .i64 a1_2, .int .i64 a1_3, .int .i64 a1_4, .int .i64 a1_5, .int .i64 a1_6] 77 (0, 0)) (BL zA.out)) (zm (by exact bl HB.out))); have n1_ := Aside0.mk (zi (g := zB) (o := .cells #[.string a1_0, .string a1_1, .int .i64 a1_2, .int .i64 a1_3, .int .i64 a1_4, .int .i64 a1_5, .int .i64 a1_6] 77 (0, 0)) (BL zA.out) hb); have n2_ := Aside0.mk (zn (by exact bl HB.out) hb); clear zA; clear HB; have zib := n0_; have zA := n1_; have HB := n2_; clear n0_ n1_ n2_; clear hb zF))
 repeat (go_quiet (first | ((with_reducible refine zu (N := 3) rfl ?_); refine zy ?hg (N := 3) ?hd (cs := #[.string a1_0, .string a1_1, .int .i64 a1_2, .int .i64 a1_3, .int .i64 a1_4, .int .i64 a1_5, .int .i64 a1_6]) (t := 77) ?hr ?_; (case hd => rfl); (case hg => rfl); (case hr => first | (go_simp; done) | (go_simp; rfl)); intro zB hg w3 hbox hb; have n0_ := Aside0.mk (zn (by repeat (first | (with_reducible first | exact HB.out | apply zh | apply zf | apply zg) | exact HB.out)) hb); have n1_ := Aside0.mk (hbox); have n2_ := Aside0.mk ((by rw [hg]; exact (zm (by repeat (first | (with_reducible first | exact HB.out | apply zh | apply zf | apply zg) | exact HB.out))) : w.heap.size ≤ zB)); have n3_ := Aside0.mk ((by rw [hg]; exact (zm (by repeat (first | (with_reducible first | exact HB.out | apply zh | apply zf | apply zg) | exact HB.out))) : w.heap.size ≤ zB)); clear HB; have HB := n0_; have zA := n1_; have GW155 := n2_; have zD := n3_; clear n0_ n1_ n2_ n3_; clear hb hbox hg) | ((with_reducible refine zu (N := 8) rfl ?_); refine Kd.R_lit k77 _ 77 ?hg (N := 8) ?hd (xs := ([] : List (S77))) (inner := []) (ok := fun _ => True) (okp := fun _ => True) ?hr ?hp (fun _ hk => hk) trivial (Below.refl _ _) (Nat.le_refl _) (by simp) ?_; (case hd => rfl); (case hg => rfl); (case hr => first | (go_simp; done) | (go_simp; rfl)); (case hp => exact (Reps.none _ _)); intro v157 w4 zF hb hg_ hnew_; clear hg_ hnew_; (first | rw [← Ny156.out] at zF | (simp only [Int.reduceToNat] at zF; rw [← Ny156.out] at zF)); have n0_ := Aside0.mk (Kd.R_lower (Kd.R_newB zF (g := zB) (o := .cells #[.string a1_0, .string a1_1, .int .i64 a1_2, .int .i64 a1_3, .int .i64 a1_4, .int .i64 a1_5, .int .i64 a1_6] 77 (0, 0)) (BL zA.out)) (zm (by repeat (first | (with_reducible first | exact HB.out | apply zh | apply zf | apply zg | refine zd ?_ zD.out) | exact HB.out)))); have n1_ := Aside0.mk (zi (g := zB) (o := .cells #[.string a1_0, .string a1_1, .int .i64 a1_2, .int .i64 a1_3, .int .i64 a1_4, .int .i64 a1_5, .int .i64 a1_6] 77 (0, 0)) (BL zA.out) hb); have n2_ := Aside0.mk (zn (by repeat (first | (with_reducible first | exact HB.out | apply zh | apply zf | apply zg | refine zd ?_ zD.out) | exact HB.out)) hb); clear zA; clear HB; have zib := n0_; have zA := n1_; have HB := n2_; clear n0_ n1_ n2_; clear hb zF)); try go_wp2_with (first | ((with_reducible refine zu (N := 3) rfl ?_); refine zy ?hg (N := 3) ?hd (cs := #[.string a1_0, .string a1_1, .int .i64 a1_2, .int .i64 a1_3, .int .i64 a1_4, .int .i64 a1_5, .int .i64 a1_6]) (t := 77) ?hr ?_; (case hd => rfl); (case hg => rfl); (case hr => first | (go_simp; done) | (go_simp; rfl)); intro zB hg w3 hbox hb; have n0_ := Aside0.mk (zn (by exact bl HB.out) hb); have n1_ := Aside0.mk (hbox); have n2_ := Aside0.mk ((by rw [hg]; exact (zm (by exact bl HB.out)) : w.heap.size ≤ zB)); have n3_ := Aside0.mk ((by rw [hg]; exact (zm (by exact bl HB.out)) : w.heap.size ≤ zB)); clear HB; have HB := n0_; have zA := n1_; have GW155 := n2_; have zD := n3_; clear n0_ n1_ n2_ n3_; clear hb hbox hg) | ((with_reducible refine zu (N := 8) rfl ?_); refine Kd.R_lit k77 _ 77 ?hg (N := 8) ?hd (xs := ([] : List (S77))) (inner := []) (ok := fun _ => True) (okp := fun _ => True) ?hr ?hp (fun _ hk => hk) trivial (Below.refl _ _) (Nat.le_refl _) (by simp) ?_; (case hd => rfl); (case hg => rfl); (case hr => first | (go_simp; done) | (go_simp; rfl)); (case hp => exact (Reps.none _ _)); intro v157 w4 zF hb hg_ hnew_; clear hg_ hnew_; (first | rw [← Ny156.out] at zF | (simp only [Int.reduceToNat] at zF; rw [← Ny156.out] at zF)); have n0_ := Aside0.mk (Kd.R_lower (Kd.R_newB zF (g := zB) (o := .cells #[.string a1_0, .string a1_1, .int .i64 a1_2, .int .i64 a1_3, .int .i64 a1_4, .int .i64 a1_5, .int .i64 a1_6] 77 (0, 0)) (BL zA.out)) (zm (by exact bl HB.out))); have n1_ := Aside0.mk (zi (g := zB) (o := .cells #[.string a1_0, .string a1_1, .int .i64 a1_2, .int .i64 a1_3, .int .i64 a1_4, .int .i64 a1_5, .int .i64 a1_6] 77 (0, 0)) (BL zA.out) hb); have n2_ := Aside0.mk (zn (by exact bl HB.out) hb); clear zA; clear HB; have zib := n0_; have zA := n1_; have HB := n2_; clear n0_ n1_ n2_; clear hb zF)))
 go_loopg [5, 6, 7] k (fun kq v5 v6 v7 w' => ∃ (x5_1 : List (S77)) (x6_1 : Bool) (x7_1 : Int), v6 = .bool x6_1 ∧ v7 = .int .i64 x7_1 ∧ Aside0 (spec_l3With.l0 kq l0 x5_1 x6_1 x7_1 a1_0 a1_1 a1_2 a1_3 a1_4 a1_5 a1_6 = some r) ∧ Aside0 (kq ≤ k) ∧ Aside0 (Kd.R k77 77 w' w.heap.size (fun k_ => k_ ≠ zB) v5 x5_1) ∧ Aside0 (w'.heap[zB]? = some (.cells #[.string a1_0, .string a1_1, .int .i64 a1_2, .int .i64 a1_3, .int .i64 a1_4, .int .i64 a1_5, .int .i64 a1_6] 77 (0, 0))) ∧ Aside0 (Below w.heap.size w w'))
 case atStart => exact ⟨(y156), (false), (0), (by first | rfl | (simp [*]; done)), (by first | rfl | (simp [*]; done)), H', ⟨Nat.le_refl _⟩, ⟨RL (Kd.R_mono zib.out (fun _ hk => hk.2))⟩, ⟨BL zA.out⟩, ⟨by repeat (first | (with_reducible first | exact HB.out | apply zh | apply zf | apply zg | refine zd ?_ zD.out) | exact HB.out)⟩⟩
 case round =>
  clear H'
  try clear p2
  obtain ⟨x5_1, x6_1, x7_1, rfl, rfl, HA, HK1, zC, zA, HB⟩ := hrel
  cases gk with
  | zero => exact absurd HA.out (by simp [spec_l3With.l0])
  | succ k1 =>
   have H := HA.out
   clear HA
   simp only [spec_l3With.l0] at H
   by_cases c6 : x7_1 < (l0.length : Int)
   ·rw [if_pos c6] at H
    have c6b0 : decide (x7_1 < (l0.length : Int)) = true := decide_eq_true c6
    clear c6
    have HC7 := Aside0.mk H
    clear H
    go_upto_region 6 with (fail)
    repeat (go_quiet (fail); go_upto_region 6 with (fail))
    go_cut [26] (fun v26 wc => ∃ (kq : Nat) (x26_6 : Bool), v26 = .bool x26_6 ∧ Aside0 (spec_l3With.j1 kq l0 x5_1 x6_1 x7_1 x26_6 a1_0 a1_1 a1_2 a1_3 a1_4 a1_5 a1_6 = some r) ∧ Aside0 (kq ≤ k1) ∧ Aside0 (Kd.R k77 77 wc w.heap.size (fun k_ => k_ ≠ zB) u5 x5_1) ∧ Aside0 (wc.heap[zB]? = some (.cells #[.string a1_0, .string a1_1, .int .i64 a1_2, .int .i64 a1_3, .int .i64 a1_4, .int .i64 a1_5, .int .i64 a1_6] 77 (0, 0))) ∧ Aside0 (Below w.heap.size w wc))
    case first =>
     have H := HC7.out
     clear HC7
     by_cases c8 : x6_1 = true
     ·subst c8
      rw [if_pos rfl] at H
      have H' := Aside0.mk H
      clear H
      go_wp2
      repeat (go_quiet (fail); try go_wp2)
      go_meet
      case rel => exact ⟨_, (false), (by first | rfl | (simp [*]; done)), H', ⟨by have := HK1.out; first | omega | exact Nat.le_refl _⟩, ⟨RL zC.out⟩, ⟨BL zA.out⟩, ⟨by repeat (first | (with_reducible first | exact HB.out | apply zh | apply zf | apply zg | refine zd ?_ zD.out) | exact HB.out)⟩⟩
     ·replace c8 := Bool.eq_false_iff.mpr c8
      subst c8
      rw [if_neg (show ¬ (false = true) by decide)] at H
      by_cases c9 : 0 ≤ x7_1
      ·rw [if_pos c9] at H
       have c9b0 : decide (0 ≤ x7_1) = true := decide_eq_true c9
       clear c9
       (first | rw [c9b0] | (simp only [zo, zp]; rw [c9b0]) | skip)
       have H' := Aside0.mk H
       clear H
       have p162 : 0 ≤ (x7_1 : Int) := of_decide_eq_true (by with_reducible assumption)
       have q162 : x7_1 < (l0.length : Int) := of_decide_eq_true (by with_reducible assumption)
       obtain ⟨ad162, e162, hx162_0, hx162_1, hx162_2, hx162_3, hx162_4, hx162_5, hx162_6⟩ := at_T77 (Kd.C_below HR0.out HB.out) x7_1 p162 q162
       cases e162
       replace p162 := eq_true p162
       replace q162 := eq_true q162
       have zmb : wr.cell? ⟨zB, 0, none⟩ = some (.string a1_0) := (zc zA.out 0).trans rfl
       have znb : wr.cell? ⟨zB, 1, none⟩ = some (.string a1_1) := (zc zA.out 1).trans rfl
       have zob : wr.cell? ⟨zB, 2, none⟩ = some (.int .i64 a1_2) := (zc zA.out 2).trans rfl
       have zpb : wr.cell? ⟨zB, 3, none⟩ = some (.int .i64 a1_3) := (zc zA.out 3).trans rfl
       have zqb : wr.cell? ⟨zB, 4, none⟩ = some (.int .i64 a1_4) := (zc zA.out 4).trans rfl
       have zrb : wr.cell? ⟨zB, 5, none⟩ = some (.int .i64 a1_5) := (zc zA.out 5).trans rfl
       have zsb : wr.cell? ⟨zB, 6, none⟩ = some (.int .i64 a1_6) := (zc zA.out 6).trans rfl
       have ztb := ze zA.out 0
       have zub := ze zA.out 1
       have zvb := ze zA.out 2
       have zwb := ze zA.out 3
       have zxb := ze zA.out 4
       have zyb := ze zA.out 5
       have zzb := ze zA.out 6
       go_wp2
       repeat (go_quiet (fail); try go_wp2)
       go_meet
       case rel => exact ⟨_, (!(Op.bytesLess (((rd_T77 l0 x7_1).f0).toList) a1_0.toList)), (by first | rfl | (simp [*]; done)), H', ⟨by have := HK1.out; first | omega | exact Nat.le_refl _⟩, ⟨RL zC.out⟩, ⟨BL zA.out⟩, ⟨by repeat (first | (with_reducible first | exact HB.out | apply zh | apply zf | apply zg | refine zd ?_ zD.out) | exact HB.out)⟩⟩
      ·rw [if_neg c9] at H
       exact absurd H (by simp)
    case rest =>
     clear HC7
     try clear p1
     try clear q1
     try clear hx1
     try clear p2
     try clear c6
     try clear c6b0
     try clear c8
     try clear c9
     try clear c9b0
     try clear zmb
     try clear znb
     try clear zob
     try clear zpb
     try clear zqb
     try clear zrb
     try clear zsb
     try clear ztb
     try clear zub
     try clear zvb
     try clear zwb
     try clear zxb
     try clear zyb
     try clear zzb
     try clear hx162_0
     try clear hx162_1
     try clear hx162_2
     try clear hx162_3
     try clear hx162_4
     try clear hx162_5
     try clear hx162_6
     try clear p162
     try clear p2
     try clear q162
     obtain ⟨kq, x26_6, rfl, HA, HJ6, zC, zA, HB⟩ := hcut
     cases kq with
     | zero => exact absurd HA.out (by simp [spec_l3With.j1])
     | succ kj6 =>
      have H := HA.out
      clear HA
      simp only [spec_l3With.j1] at H
      by_cases c11 : x26_6 = true
      ·subst c11
       rw [if_pos rfl] at H
       by_cases c12 : x5_1.length < 1954687338268
       ·rw [if_pos c12] at H
        have LMc12 := Aside0.mk c12
        clear c12
        obtain ⟨y163, hy163⟩ : ∃ y_ : List (S77), y_ = (x5_1 ++ [(⟨a1_0, a1_1, a1_2, a1_3, a1_4, a1_5, a1_6⟩ : S77)]) := ⟨_, rfl⟩
        replace H : (if 0 ≤ x7_1 then (if x7_1 < (l0.length : Int) then (if ((rd_T77 l0 x7_1).f0).toList = a1_0.toList then (spec_l3With.l0 kj6 l0 y163 true (wrap64 (x7_1 + 1)) a1_0 a1_1 a1_2 a1_3 a1_4 a1_5 a1_6) else (if y163.length < 1954687338268 then (spec_l3With.l0 kj6 l0 (y163 ++ [(⟨(rd_T77 l0 x7_1).f0, (rd_T77 l0 x7_1).f1, (rd_T77 l0 x7_1).f2, (rd_T77 l0 x7_1).f3, (rd_T77 l0 x7_1).f4, (rd_T77 l0 x7_1).f5, (rd_T77 l0 x7_1).f6⟩ : S77)]) true (wrap64 (x7_1 + 1)) a1_0 a1_1 a1_2 a1_3 a1_4 a1_5 a1_6) else (none))) else (none)) else (none)) = some r := by first | (rw [hy163]; with_reducible exact H) | (have H2_ := (Option.bind_some _ _).symm.trans H; rw [hy163]; with_reducible exact H2_) | (have H2_ := (Option.bind_some _ _).symm.trans H; with_reducible exact H2_) | with_reducible exact H | (rw [hy163]; exact H) | exact H
        have Ny163 := Aside0.mk hy163
        clear hy163
        by_cases c13 : 0 ≤ x7_1
        ·rw [if_pos c13] at H
         have c13b0 : decide (0 ≤ x7_1) = true := decide_eq_true c13
         clear c13
         by_cases c14 : x7_1 < (l0.length : Int)
         ·rw [if_pos c14] at H
          have c14b0 : decide (x7_1 < (l0.length : Int)) = true := decide_eq_true c14
          clear c14
          by_cases c15 : ((rd_T77 l0 x7_1).f0).toList = a1_0.toList
          ·rw [if_pos c15] at H
           have c15b0 : (((rd_T77 l0 x7_1).f0).toList == a1_0.toList) = true := beq_iff_eq.mpr c15
           have c15b1 : (((rd_T77 l0 x7_1).f0).toList != a1_0.toList) = false := bne_eq_false_iff_eq.mpr c15
           clear c15
           have H' := Aside0.mk H
           clear H
           have zAb : wc.cell? ⟨zB, 0, none⟩ = some (.string a1_0) := (zc zA.out 0).trans rfl
           have zBb : wc.cell? ⟨zB, 1, none⟩ = some (.string a1_1) := (zc zA.out 1).trans rfl
           have zCb : wc.cell? ⟨zB, 2, none⟩ = some (.int .i64 a1_2) := (zc zA.out 2).trans rfl
           have zDb : wc.cell? ⟨zB, 3, none⟩ = some (.int .i64 a1_3) := (zc zA.out 3).trans rfl
           have zEb : wc.cell? ⟨zB, 4, none⟩ = some (.int .i64 a1_4) := (zc zA.out 4).trans rfl
           have zFb : wc.cell? ⟨zB, 5, none⟩ = some (.int .i64 a1_5) := (zc zA.out 5).trans rfl
           have zGb : wc.cell? ⟨zB, 6, none⟩ = some (.int .i64 a1_6) := (zc zA.out 6).trans rfl
           have zHb := ze zA.out 0
           have zIb := ze zA.out 1
           have zJb := ze zA.out 2
           have zKb := ze zA.out 3
           have zLb := ze zA.out 4
           have zMb := ze zA.out 5
           have zNb := ze zA.out 6
           go_wp2_with (first | ((with_reducible refine gate_builtin (b := .append) (xs := #[.tmp 27, .tmp 29]) rfl ?_); at_builtin; refine Kd.R_append k77 (w0 := w) w.heap.size rfl (.tmp 27) (.tmp 29) 23 77 (.agg #[(.string ⟨#[]⟩), (.string ⟨#[]⟩), (.int .i64 0), (.int .i64 0), (.int .i64 0), (.int .i64 0), (.int .i64 0)]) 72 rfl Tryd.underlying23 info77 rfl (by decide) (by omega) u5 x5_1 (⟨a1_0, a1_1, a1_2, a1_3, a1_4, a1_5, a1_6⟩ : S77) [.string a1_0, .string a1_1, .int .i64 a1_2, .int .i64 a1_3, .int .i64 a1_4, .int .i64 a1_5, .int .i64 a1_6] (fun k_ => k_ ≠ zB) (fun _ => False) rfl rfl ?aP (fun _ hk => hk.elim) ?aF ?aO ?aB ?aS ?aL ?_; (case aP => exact k77_mkM _ _ _ (⟨a1_0, a1_1, a1_2, a1_3, a1_4, a1_5, a1_6⟩ : S77)); (case aB => exact (by exact bl HB.out)); (case aF => exact (fun k_ hk => Kd.freshB (g := zB) (o := .cells #[.string a1_0, .string a1_1, .int .i64 a1_2, .int .i64 a1_3, .int .i64 a1_4, .int .i64 a1_5, .int .i64 a1_6] 77 (0, 0)) (BL zA.out) k_ hk)); (case aO => exact (RL zC.out)); (case aS => exact (zm (by exact bl HB.out))); (case aL => have := LMc12.out; omega); intro v164 w17 ho hb hg hat; rw [← Ny163.out] at ho; have n0_ := Aside0.mk (blk_grown (g := zB) (o := .cells #[.string a1_0, .string a1_1, .int .i64 a1_2, .int .i64 a1_3, .int .i64 a1_4, .int .i64 a1_5, .int .i64 a1_6] 77 (0, 0)) (BL zA.out) hg (Kd.R_away zC.out (fun _ hk => hk))); have n1_ := Aside0.mk (hb); have n2_ := Aside0.mk (ho); clear zA; clear HB; clear zC; have zA := n0_; have HB := n1_; have zE := n2_; clear n0_ n1_ n2_; clear ho hb hg hat; have p166 : 0 ≤ (x7_1 : Int) := of_decide_eq_true (by with_reducible assumption); have q166 : x7_1 < (l0.length : Int) := of_decide_eq_true (by with_reducible assumption); obtain ⟨ad166, e166, hx166_0, hx166_1, hx166_2, hx166_3, hx166_4, hx166_5, hx166_6⟩ := at_T77 HR0.out x7_1 p166 q166; cases e166; replace hx166_0 := zb HB.out hx166_0; replace hx166_1 := zb HB.out hx166_1; replace hx166_2 := zb HB.out hx166_2; replace hx166_3 := zb HB.out hx166_3; replace hx166_4 := zb HB.out hx166_4; replace hx166_5 := zb HB.out hx166_5; replace hx166_6 := zb HB.out hx166_6; replace p166 := eq_true p166; replace q166 := eq_true q166; have zG : w17.cell? ⟨zB, 0, none⟩ = some (.string a1_0) := (zc zA.out 0).trans rfl; have zH : w17.cell? ⟨zB, 1, none⟩ = some (.string a1_1) := (zc zA.out 1).trans rfl; have zI : w17.cell? ⟨zB, 2, none⟩ = some (.int .i64 a1_2) := (zc zA.out 2).trans rfl; have zJ : w17.cell? ⟨zB, 3, none⟩ = some (.int .i64 a1_3) := (zc zA.out 3).trans rfl; have zK : w17.cell? ⟨zB, 4, none⟩ = some (.int .i64 a1_4) := (zc zA.out 4).trans rfl; have zL : w17.cell? ⟨zB, 5, none⟩ = some (.int .i64 a1_5) := (zc zA.out 5).trans rfl; have zM : w17.cell? ⟨zB, 6, none⟩ = some (.int .i64 a1_6) := (zc zA.out 6).trans rfl; have zN := ze zA.out 0; have zO := ze zA.out 1; have zP := ze zA.out 2; have zQ := ze zA.out 3; have zR := ze zA.out 4; have zS := ze zA.out 5; have zT := ze zA.out 6))
           repeat (go_quiet (first | ((with_reducible refine gate_builtin (b := .append) (xs := #[.tmp 27, .tmp 29]) rfl ?_); at_builtin; refine Kd.R_append k77 (w0 := w) w.heap.size rfl (.tmp 27) (.tmp 29) 23 77 (.agg #[(.string ⟨#[]⟩), (.string ⟨#[]⟩), (.int .i64 0), (.int .i64 0), (.int .i64 0), (.int .i64 0), (.int .i64 0)]) 72 rfl Tryd.underlying23 info77 rfl (by decide) (by omega) u5 x5_1 (⟨a1_0, a1_1, a1_2, a1_3, a1_4, a1_5, a1_6⟩ : S77) [.string a1_0, .string a1_1, .int .i64 a1_2, .int .i64 a1_3, .int .i64 a1_4, .int .i64 a1_5, .int .i64 a1_6] (fun k_ => k_ ≠ zB) (fun _ => False) rfl rfl ?aP (fun _ hk => hk.elim) ?aF ?aO ?aB ?aS ?aL ?_; (case aP => exact k77_mkM _ _ _ (⟨a1_0, a1_1, a1_2, a1_3, a1_4, a1_5, a1_6⟩ : S77)); (case aB => exact (by repeat (first | (with_reducible first | exact HB.out | apply zh | apply zf | apply zg | refine zd ?_ zD.out) | exact HB.out))); (case aF => exact (fun k_ hk => Kd.freshB (g := zB) (o := .cells #[.string a1_0, .string a1_1, .int .i64 a1_2, .int .i64 a1_3, .int .i64 a1_4, .int .i64 a1_5, .int .i64 a1_6] 77 (0, 0)) (BL zA.out) k_ hk)); (case aO => exact (RL zC.out)); (case aS => exact (zm (by repeat (first | (with_reducible first | exact HB.out | apply zh | apply zf | apply zg | refine zd ?_ zD.out) | exact HB.out)))); (case aL => have := LMc12.out; omega); intro v164 w17 ho hb hg hat; rw [← Ny163.out] at ho; have n0_ := Aside0.mk (blk_grown (g := zB) (o := .cells #[.string a1_0, .string a1_1, .int .i64 a1_2, .int .i64 a1_3, .int .i64 a1_4, .int .i64 a1_5, .int .i64 a1_6] 77 (0, 0)) (BL zA.out) hg (Kd.R_away zC.out (fun _ hk => hk))); have n1_ := Aside0.mk (hb); have n2_ := Aside0.mk (ho); clear zA; clear HB; clear zC; have zA := n0_; have HB := n1_; have zE := n2_; clear n0_ n1_ n2_; clear ho hb hg hat; have p166 : 0 ≤ (x7_1 : Int) := of_decide_eq_true (by with_reducible assumption); have q166 : x7_1 < (l0.length : Int) := of_decide_eq_true (by with_reducible assumption); obtain ⟨ad166, e166, hx166_0, hx166_1, hx166_2, hx166_3, hx166_4, hx166_5, hx166_6⟩ := at_T77 HR0.out x7_1 p166 q166; cases e166; replace hx166_0 := zb HB.out hx166_0; replace hx166_1 := zb HB.out hx166_1; replace hx166_2 := zb HB.out hx166_2; replace hx166_3 := zb HB.out hx166_3; replace hx166_4 := zb HB.out hx166_4; replace hx166_5 := zb HB.out hx166_5; replace hx166_6 := zb HB.out hx166_6; replace p166 := eq_true p166; replace q166 := eq_true q166; have zG : w17.cell? ⟨zB, 0, none⟩ = some (.string a1_0) := (zc zA.out 0).trans rfl; have zH : w17.cell? ⟨zB, 1, none⟩ = some (.string a1_1) := (zc zA.out 1).trans rfl; have zI : w17.cell? ⟨zB, 2, none⟩ = some (.int .i64 a1_2) := (zc zA.out 2).trans rfl; have zJ : w17.cell? ⟨zB, 3, none⟩ = some (.int .i64 a1_3) := (zc zA.out 3).trans rfl; have zK : w17.cell? ⟨zB, 4, none⟩ = some (.int .i64 a1_4) := (zc zA.out 4).trans rfl; have zL : w17.cell? ⟨zB, 5, none⟩ = some (.int .i64 a1_5) := (zc zA.out 5).trans rfl; have zM : w17.cell? ⟨zB, 6, none⟩ = some (.int .i64 a1_6) := (zc zA.out 6).trans rfl; have zN := ze zA.out 0; have zO := ze zA.out 1; have zP := ze zA.out 2; have zQ := ze zA.out 3; have zR := ze zA.out 4; have zS := ze zA.out 5; have zT := ze zA.out 6)); try go_wp2_with (first | ((with_reducible refine gate_builtin (b := .append) (xs := #[.tmp 27, .tmp 29]) rfl ?_); at_builtin; refine Kd.R_append k77 (w0 := w) w.heap.size rfl (.tmp 27) (.tmp 29) 23 77 (.agg #[(.string ⟨#[]⟩), (.string ⟨#[]⟩), (.int .i64 0), (.int .i64 0), (.int .i64 0), (.int .i64 0), (.int .i64 0)]) 72 rfl Tryd.underlying23 info77 rfl (by decide) (by omega) u5 x5_1 (⟨a1_0, a1_1, a1_2, a1_3, a1_4, a1_5, a1_6⟩ : S77) [.string a1_0, .string a1_1, .int .i64 a1_2, .int .i64 a1_3, .int .i64 a1_4, .int .i64 a1_5, .int .i64 a1_6] (fun k_ => k_ ≠ zB) (fun _ => False) rfl rfl ?aP (fun _ hk => hk.elim) ?aF ?aO ?aB ?aS ?aL ?_; (case aP => exact k77_mkM _ _ _ (⟨a1_0, a1_1, a1_2, a1_3, a1_4, a1_5, a1_6⟩ : S77)); (case aB => exact (by exact bl HB.out)); (case aF => exact (fun k_ hk => Kd.freshB (g := zB) (o := .cells #[.string a1_0, .string a1_1, .int .i64 a1_2, .int .i64 a1_3, .int .i64 a1_4, .int .i64 a1_5, .int .i64 a1_6] 77 (0, 0)) (BL zA.out) k_ hk)); (case aO => exact (RL zC.out)); (case aS => exact (zm (by exact bl HB.out))); (case aL => have := LMc12.out; omega); intro v164 w17 ho hb hg hat; rw [← Ny163.out] at ho; have n0_ := Aside0.mk (blk_grown (g := zB) (o := .cells #[.string a1_0, .string a1_1, .int .i64 a1_2, .int .i64 a1_3, .int .i64 a1_4, .int .i64 a1_5, .int .i64 a1_6] 77 (0, 0)) (BL zA.out) hg (Kd.R_away zC.out (fun _ hk => hk))); have n1_ := Aside0.mk (hb); have n2_ := Aside0.mk (ho); clear zA; clear HB; clear zC; have zA := n0_; have HB := n1_; have zE := n2_; clear n0_ n1_ n2_; clear ho hb hg hat; have p166 : 0 ≤ (x7_1 : Int) := of_decide_eq_true (by with_reducible assumption); have q166 : x7_1 < (l0.length : Int) := of_decide_eq_true (by with_reducible assumption); obtain ⟨ad166, e166, hx166_0, hx166_1, hx166_2, hx166_3, hx166_4, hx166_5, hx166_6⟩ := at_T77 HR0.out x7_1 p166 q166; cases e166; replace hx166_0 := zb HB.out hx166_0; replace hx166_1 := zb HB.out hx166_1; replace hx166_2 := zb HB.out hx166_2; replace hx166_3 := zb HB.out hx166_3; replace hx166_4 := zb HB.out hx166_4; replace hx166_5 := zb HB.out hx166_5; replace hx166_6 := zb HB.out hx166_6; replace p166 := eq_true p166; replace q166 := eq_true q166; have zG : w17.cell? ⟨zB, 0, none⟩ = some (.string a1_0) := (zc zA.out 0).trans rfl; have zH : w17.cell? ⟨zB, 1, none⟩ = some (.string a1_1) := (zc zA.out 1).trans rfl; have zI : w17.cell? ⟨zB, 2, none⟩ = some (.int .i64 a1_2) := (zc zA.out 2).trans rfl; have zJ : w17.cell? ⟨zB, 3, none⟩ = some (.int .i64 a1_3) := (zc zA.out 3).trans rfl; have zK : w17.cell? ⟨zB, 4, none⟩ = some (.int .i64 a1_4) := (zc zA.out 4).trans rfl; have zL : w17.cell? ⟨zB, 5, none⟩ = some (.int .i64 a1_5) := (zc zA.out 5).trans rfl; have zM : w17.cell? ⟨zB, 6, none⟩ = some (.int .i64 a1_6) := (zc zA.out 6).trans rfl; have zN := ze zA.out 0; have zO := ze zA.out 1; have zP := ze zA.out 2; have zQ := ze zA.out 3; have zR := ze zA.out 4; have zS := ze zA.out 5; have zT := ze zA.out 6)))
           go_roundg kj6
           case measure => have := HK1.out; have := HJ6.out; omega
           case rel => exact ⟨(y163), (true), (wrap64 (x7_1 + 1)), (by first | rfl | (simp [*]; done)), (by first | rfl | (simp [*]; done)), H', ⟨by have := HK1.out; have := HJ6.out; omega⟩, ⟨RL zE.out⟩, ⟨BL zA.out⟩, ⟨by repeat (first | (with_reducible first | exact HB.out | apply zh | apply zf | apply zg | refine zd ?_ zD.out) | exact HB.out)⟩⟩
          ·rw [if_neg c15] at H
           have c15b0 : (((rd_T77 l0 x7_1).f0).toList == a1_0.toList) = false := beq_eq_false_iff_ne.mpr c15
           have c15b1 : (((rd_T77 l0 x7_1).f0).toList != a1_0.toList) = true := bne_iff_ne.mpr c15
           by_cases c19 : y163.length < 1954687338268
           ·rw [if_pos c19] at H
            have LMc19 := Aside0.mk c19
            clear c19
            obtain ⟨y168, hy168⟩ : ∃ y_ : List (S77), y_ = (y163 ++ [(⟨(rd_T77 l0 x7_1).f0, (rd_T77 l0 x7_1).f1, (rd_T77 l0 x7_1).f2, (rd_T77 l0 x7_1).f3, (rd_T77 l0 x7_1).f4, (rd_T77 l0 x7_1).f5, (rd_T77 l0 x7_1).f6⟩ : S77)]) := ⟨_, rfl⟩
            replace H : (spec_l3With.l0 kj6 l0 y168 true (wrap64 (x7_1 + 1)) a1_0 a1_1 a1_2 a1_3 a1_4 a1_5 a1_6) = some r := by first | (rw [hy168]; with_reducible exact H) | (have H2_ := (Option.bind_some _ _).symm.trans H; rw [hy168]; with_reducible exact H2_) | (have H2_ := (Option.bind_some _ _).symm.trans H; with_reducible exact H2_) | with_reducible exact H | (rw [hy168]; exact H) | exact H
            have Ny168 := Aside0.mk hy168
            clear hy168
            have H' := Aside0.mk H
            clear H
            have zOb : wc.cell? ⟨zB, 0, none⟩ = some (.string a1_0) := (zc zA.out 0).trans rfl
            have zPb : wc.cell? ⟨zB, 1, none⟩ = some (.string a1_1) := (zc zA.out 1).trans rfl
            have zQb : wc.cell? ⟨zB, 2, none⟩ = some (.int .i64 a1_2) := (zc zA.out 2).trans rfl
            have zRb : wc.cell? ⟨zB, 3, none⟩ = some (.int .i64 a1_3) := (zc zA.out 3).trans rfl
            have zSb : wc.cell? ⟨zB, 4, none⟩ = some (.int .i64 a1_4) := (zc zA.out 4).trans rfl
            have zTb : wc.cell? ⟨zB, 5, none⟩ = some (.int .i64 a1_5) := (zc zA.out 5).trans rfl
            have zUb : wc.cell? ⟨zB, 6, none⟩ = some (.int .i64 a1_6) := (zc zA.out 6).trans rfl
            have zVb := ze zA.out 0
            have zWb := ze zA.out 1
            have zXb := ze zA.out 2
            have zYb := ze zA.out 3
            have zZb := ze zA.out 4
            have zac := ze zA.out 5
            have zbc := ze zA.out 6
            go_wp2_with (first | ((with_reducible refine gate_builtin (b := .append) (xs := #[.tmp 27, .tmp 29]) rfl ?_); at_builtin; refine Kd.R_append k77 (w0 := w) w.heap.size rfl (.tmp 27) (.tmp 29) 23 77 (.agg #[(.string ⟨#[]⟩), (.string ⟨#[]⟩), (.int .i64 0), (.int .i64 0), (.int .i64 0), (.int .i64 0), (.int .i64 0)]) 72 rfl Tryd.underlying23 info77 rfl (by decide) (by omega) u5 x5_1 (⟨a1_0, a1_1, a1_2, a1_3, a1_4, a1_5, a1_6⟩ : S77) [.string a1_0, .string a1_1, .int .i64 a1_2, .int .i64 a1_3, .int .i64 a1_4, .int .i64 a1_5, .int .i64 a1_6] (fun k_ => k_ ≠ zB) (fun _ => False) rfl rfl ?aP (fun _ hk => hk.elim) ?aF ?aO ?aB ?aS ?aL ?_; (case aP => exact k77_mkM _ _ _ (⟨a1_0, a1_1, a1_2, a1_3, a1_4, a1_5, a1_6⟩ : S77)); (case aB => exact (by exact bl HB.out)); (case aF => exact (fun k_ hk => Kd.freshB (g := zB) (o := .cells #[.string a1_0, .string a1_1, .int .i64 a1_2, .int .i64 a1_3, .int .i64 a1_4, .int .i64 a1_5, .int .i64 a1_6] 77 (0, 0)) (BL zA.out) k_ hk)); (case aO => exact (RL zC.out)); (case aS => exact (zm (by exact bl HB.out))); (case aL => have := LMc12.out; omega); intro v164 w21 ho hb hg hat; rw [← Ny163.out] at ho; have n0_ := Aside0.mk (blk_grown (g := zB) (o := .cells #[.string a1_0, .string a1_1, .int .i64 a1_2, .int .i64 a1_3, .int .i64 a1_4, .int .i64 a1_5, .int .i64 a1_6] 77 (0, 0)) (BL zA.out) hg (Kd.R_away zC.out (fun _ hk => hk))); have n1_ := Aside0.mk (hb); have n2_ := Aside0.mk (ho); clear zA; clear HB; clear zC; have zA := n0_; have HB := n1_; have zE := n2_; clear n0_ n1_ n2_; clear ho hb hg hat; have p166 : 0 ≤ (x7_1 : Int) := of_decide_eq_true (by with_reducible assumption); have q166 : x7_1 < (l0.length : Int) := of_decide_eq_true (by with_reducible assumption); obtain ⟨ad166, e166, hx166_0, hx166_1, hx166_2, hx166_3, hx166_4, hx166_5, hx166_6⟩ := at_T77 HR0.out x7_1 p166 q166; cases e166; replace hx166_0 := zb HB.out hx166_0; replace hx166_1 := zb HB.out hx166_1; replace hx166_2 := zb HB.out hx166_2; replace hx166_3 := zb HB.out hx166_3; replace hx166_4 := zb HB.out hx166_4; replace hx166_5 := zb HB.out hx166_5; replace hx166_6 := zb HB.out hx166_6; replace p166 := eq_true p166; replace q166 := eq_true q166; have zU : w21.cell? ⟨zB, 0, none⟩ = some (.string a1_0) := (zc zA.out 0).trans rfl; have zV : w21.cell? ⟨zB, 1, none⟩ = some (.string a1_1) := (zc zA.out 1).trans rfl; have zW : w21.cell? ⟨zB, 2, none⟩ = some (.int .i64 a1_2) := (zc zA.out 2).trans rfl; have zX : w21.cell? ⟨zB, 3, none⟩ = some (.int .i64 a1_3) := (zc zA.out 3).trans rfl; have zY : w21.cell? ⟨zB, 4, none⟩ = some (.int .i64 a1_4) := (zc zA.out 4).trans rfl; have zZ : w21.cell? ⟨zB, 5, none⟩ = some (.int .i64 a1_5) := (zc zA.out 5).trans rfl; have zab : w21.cell? ⟨zB, 6, none⟩ = some (.int .i64 a1_6) := (zc zA.out 6).trans rfl; have zbb := ze zA.out 0; have zcb := ze zA.out 1; have zdb := ze zA.out 2; have zeb := ze zA.out 3; have zfb := ze zA.out 4; have zgb := ze zA.out 5; have zhb := ze zA.out 6; have p167 : 0 ≤ (x7_1 : Int) := of_decide_eq_true (by with_reducible assumption); have q167 : x7_1 < (l0.length : Int) := of_decide_eq_true (by with_reducible assumption); obtain ⟨ad167, e167, hx167_0, hx167_1, hx167_2, hx167_3, hx167_4, hx167_5, hx167_6⟩ := at_T77 HR0.out x7_1 p167 q167; obtain rfl : ad166 = ad167 := (by injection e167); replace hx167_0 := zb HB.out hx167_0; replace hx167_1 := zb HB.out hx167_1; replace hx167_2 := zb HB.out hx167_2; replace hx167_3 := zb HB.out hx167_3; replace hx167_4 := zb HB.out hx167_4; replace hx167_5 := zb HB.out hx167_5; replace hx167_6 := zb HB.out hx167_6; replace p167 := eq_true p167; replace q167 := eq_true q167) | ((with_reducible refine gate_builtin (b := .append) (xs := #[.tmp 39, .tmp 44]) rfl ?_); at_builtin; refine Kd.R_append k77 (w0 := w) w.heap.size rfl (.tmp 39) (.tmp 44) 23 77 (.agg #[(.string ⟨#[]⟩), (.string ⟨#[]⟩), (.int .i64 0), (.int .i64 0), (.int .i64 0), (.int .i64 0), (.int .i64 0)]) 72 rfl Tryd.underlying23 info77 rfl (by decide) (by omega) v164 y163 (⟨(rd_T77 l0 x7_1).f0, (rd_T77 l0 x7_1).f1, (rd_T77 l0 x7_1).f2, (rd_T77 l0 x7_1).f3, (rd_T77 l0 x7_1).f4, (rd_T77 l0 x7_1).f5, (rd_T77 l0 x7_1).f6⟩ : S77) [.string ((rd_T77 l0 x7_1).f0), .string ((rd_T77 l0 x7_1).f1), .int .i64 ((rd_T77 l0 x7_1).f2), .int .i64 ((rd_T77 l0 x7_1).f3), .int .i64 ((rd_T77 l0 x7_1).f4), .int .i64 ((rd_T77 l0 x7_1).f5), .int .i64 ((rd_T77 l0 x7_1).f6)] (fun k_ => k_ ≠ zB) (fun _ => False) rfl rfl ?aP (fun _ hk => hk.elim) ?aF ?aO ?aB ?aS ?aL ?_; (case aP => exact k77_mkM _ _ _ (⟨(rd_T77 l0 x7_1).f0, (rd_T77 l0 x7_1).f1, (rd_T77 l0 x7_1).f2, (rd_T77 l0 x7_1).f3, (rd_T77 l0 x7_1).f4, (rd_T77 l0 x7_1).f5, (rd_T77 l0 x7_1).f6⟩ : S77)); (case aB => exact (by exact bl HB.out)); (case aF => exact (fun k_ hk => Kd.freshB (g := zB) (o := .cells #[.string a1_0, .string a1_1, .int .i64 a1_2, .int .i64 a1_3, .int .i64 a1_4, .int .i64 a1_5, .int .i64 a1_6] 77 (0, 0)) (BL zA.out) k_ hk)); (case aO => exact (RL zE.out)); (case aS => exact (zm (by exact bl HB.out))); (case aL => have := LMc19.out; omega); intro v169 w23 ho hb hg hat; rw [← Ny168.out] at ho; have n0_ := Aside0.mk (blk_grown (g := zB) (o := .cells #[.string a1_0, .string a1_1, .int .i64 a1_2, .int .i64 a1_3, .int .i64 a1_4, .int .i64 a1_5, .int .i64 a1_6] 77 (0, 0)) (BL zA.out) hg (Kd.R_away zE.out (fun _ hk => hk))); have n1_ := Aside0.mk (hb); have n2_ := Aside0.mk (ho); clear zA; clear HB; clear zE; have zA := n0_; have HB := n1_; have zjb := n2_; clear n0_ n1_ n2_; clear ho hb hg hat))
            repeat (go_quiet (first | ((with_reducible refine gate_builtin (b := .append) (xs := #[.tmp 27, .tmp 29]) rfl ?_); at_builtin; refine Kd.R_append k77 (w0 := w) w.heap.size rfl (.tmp 27) (.tmp 29) 23 77 (.agg #[(.string ⟨#[]⟩), (.string ⟨#[]⟩), (.int .i64 0), (.int .i64 0), (.int .i64 0), (.int .i64 0), (.int .i64 0)]) 72 rfl Tryd.underlying23 info77 rfl (by decide) (by omega) u5 x5_1 (⟨a1_0, a1_1, a1_2, a1_3, a1_4, a1_5, a1_6⟩ : S77) [.string a1_0, .string a1_1, .int .i64 a1_2, .int .i64 a1_3, .int .i64 a1_4, .int .i64 a1_5, .int .i64 a1_6] (fun k_ => k_ ≠ zB) (fun _ => False) rfl rfl ?aP (fun _ hk => hk.elim) ?aF ?aO ?aB ?aS ?aL ?_; (case aP => exact k77_mkM _ _ _ (⟨a1_0, a1_1, a1_2, a1_3, a1_4, a1_5, a1_6⟩ : S77)); (case aB => exact (by repeat (first | (with_reducible first | exact HB.out | apply zh | apply zf | apply zg | refine zd ?_ zD.out) | exact HB.out))); (case aF => exact (fun k_ hk => Kd.freshB (g := zB) (o := .cells #[.string a1_0, .string a1_1, .int .i64 a1_2, .int .i64 a1_3, .int .i64 a1_4, .int .i64 a1_5, .int .i64 a1_6] 77 (0, 0)) (BL zA.out) k_ hk)); (case aO => exact (RL zC.out)); (case aS => exact (zm (by repeat (first | (with_reducible first | exact HB.out | apply zh | apply zf | apply zg | refine zd ?_ zD.out) | exact HB.out)))); (case aL => have := LMc12.out; omega); intro v164 w21 ho hb hg hat; rw [← Ny163.out] at ho; have n0_ := Aside0.mk (blk_grown (g := zB) (o := .cells #[.string a1_0, .string a1_1, .int .i64 a1_2, .int .i64 a1_3, .int .i64 a1_4, .int .i64 a1_5, .int .i64 a1_6] 77 (0, 0)) (BL zA.out) hg (Kd.R_away zC.out (fun _ hk => hk))); have n1_ := Aside0.mk (hb); have n2_ := Aside0.mk (ho); clear zA; clear HB; clear zC; have zA := n0_; have HB := n1_; have zE := n2_; clear n0_ n1_ n2_; clear ho hb hg hat; have p166 : 0 ≤ (x7_1 : Int) := of_decide_eq_true (by with_reducible assumption); have q166 : x7_1 < (l0.length : Int) := of_decide_eq_true (by with_reducible assumption); obtain ⟨ad166, e166, hx166_0, hx166_1, hx166_2, hx166_3, hx166_4, hx166_5, hx166_6⟩ := at_T77 HR0.out x7_1 p166 q166; cases e166; replace hx166_0 := zb HB.out hx166_0; replace hx166_1 := zb HB.out hx166_1; replace hx166_2 := zb HB.out hx166_2; replace hx166_3 := zb HB.out hx166_3; replace hx166_4 := zb HB.out hx166_4; replace hx166_5 := zb HB.out hx166_5; replace hx166_6 := zb HB.out hx166_6; replace p166 := eq_true p166; replace q166 := eq_true q166; have zU : w21.cell? ⟨zB, 0, none⟩ = some (.string a1_0) := (zc zA.out 0).trans rfl; have zV : w21.cell? ⟨zB, 1, none⟩ = some (.string a1_1) := (zc zA.out 1).trans rfl; have zW : w21.cell? ⟨zB, 2, none⟩ = some (.int .i64 a1_2) := (zc zA.out 2).trans rfl; have zX : w21.cell? ⟨zB, 3, none⟩ = some (.int .i64 a1_3) := (zc zA.out 3).trans rfl; have zY : w21.cell? ⟨zB, 4, none⟩ = some (.int .i64 a1_4) := (zc zA.out 4).trans rfl; have zZ : w21.cell? ⟨zB, 5, none⟩ = some (.int .i64 a1_5) := (zc zA.out 5).trans rfl; have zab : w21.cell? ⟨zB, 6, none⟩ = some (.int .i64 a1_6) := (zc zA.out 6).trans rfl; have zbb := ze zA.out 0; have zcb := ze zA.out 1; have zdb := ze zA.out 2; have zeb := ze zA.out 3; have zfb := ze zA.out 4; have zgb := ze zA.out 5; have zhb := ze zA.out 6; have p167 : 0 ≤ (x7_1 : Int) := of_decide_eq_true (by with_reducible assumption); have q167 : x7_1 < (l0.length : Int) := of_decide_eq_true (by with_reducible assumption); obtain ⟨ad167, e167, hx167_0, hx167_1, hx167_2, hx167_3, hx167_4, hx167_5, hx167_6⟩ := at_T77 HR0.out x7_1 p167 q167; obtain rfl : ad166 = ad167 := (by injection e167); replace hx167_0 := zb HB.out hx167_0; replace hx167_1 := zb HB.out hx167_1; replace hx167_2 := zb HB.out hx167_2; replace hx167_3 := zb HB.out hx167_3; replace hx167_4 := zb HB.out hx167_4; replace hx167_5 := zb HB.out hx167_5; replace hx167_6 := zb HB.out hx167_6; replace p167 := eq_true p167; replace q167 := eq_true q167) | ((with_reducible refine gate_builtin (b := .append) (xs := #[.tmp 39, .tmp 44]) rfl ?_); at_builtin; refine Kd.R_append k77 (w0 := w) w.heap.size rfl (.tmp 39) (.tmp 44) 23 77 (.agg #[(.string ⟨#[]⟩), (.string ⟨#[]⟩), (.int .i64 0), (.int .i64 0), (.int .i64 0), (.int .i64 0), (.int .i64 0)]) 72 rfl Tryd.underlying23 info77 rfl (by decide) (by omega) v164 y163 (⟨(rd_T77 l0 x7_1).f0, (rd_T77 l0 x7_1).f1, (rd_T77 l0 x7_1).f2, (rd_T77 l0 x7_1).f3, (rd_T77 l0 x7_1).f4, (rd_T77 l0 x7_1).f5, (rd_T77 l0 x7_1).f6⟩ : S77) [.string ((rd_T77 l0 x7_1).f0), .string ((rd_T77 l0 x7_1).f1), .int .i64 ((rd_T77 l0 x7_1).f2), .int .i64 ((rd_T77 l0 x7_1).f3), .int .i64 ((rd_T77 l0 x7_1).f4), .int .i64 ((rd_T77 l0 x7_1).f5), .int .i64 ((rd_T77 l0 x7_1).f6)] (fun k_ => k_ ≠ zB) (fun _ => False) rfl rfl ?aP (fun _ hk => hk.elim) ?aF ?aO ?aB ?aS ?aL ?_; (case aP => exact k77_mkM _ _ _ (⟨(rd_T77 l0 x7_1).f0, (rd_T77 l0 x7_1).f1, (rd_T77 l0 x7_1).f2, (rd_T77 l0 x7_1).f3, (rd_T77 l0 x7_1).f4, (rd_T77 l0 x7_1).f5, (rd_T77 l0 x7_1).f6⟩ : S77)); (case aB => exact (by repeat (first | (with_reducible first | exact HB.out | apply zh | apply zf | apply zg | refine zd ?_ zD.out) | exact HB.out))); (case aF => exact (fun k_ hk => Kd.freshB (g := zB) (o := .cells #[.string a1_0, .string a1_1, .int .i64 a1_2, .int .i64 a1_3, .int .i64 a1_4, .int .i64 a1_5, .int .i64 a1_6] 77 (0, 0)) (BL zA.out) k_ hk)); (case aO => exact (RL zE.out)); (case aS => exact (zm (by repeat (first | (with_reducible first | exact HB.out | apply zh | apply zf | apply zg | refine zd ?_ zD.out) | exact HB.out)))); (case aL => have := LMc19.out; omega); intro v169 w23 ho hb hg hat; rw [← Ny168.out] at ho; have n0_ := Aside0.mk (blk_grown (g := zB) (o := .cells #[.string a1_0, .string a1_1, .int .i64 a1_2, .int .i64 a1_3, .int .i64 a1_4, .int .i64 a1_5, .int .i64 a1_6] 77 (0, 0)) (BL zA.out) hg (Kd.R_away zE.out (fun _ hk => hk))); have n1_ := Aside0.mk (hb); have n2_ := Aside0.mk (ho); clear zA; clear HB; clear zE; have zA := n0_; have HB := n1_; have zjb := n2_; clear n0_ n1_ n2_; clear ho hb hg hat)); try go_wp2_with (first | ((with_reducible refine gate_builtin (b := .append) (xs := #[.tmp 27, .tmp 29]) rfl ?_); at_builtin; refine Kd.R_append k77 (w0 := w) w.heap.size rfl (.tmp 27) (.tmp 29) 23 77 (.agg #[(.string ⟨#[]⟩), (.string ⟨#[]⟩), (.int .i64 0), (.int .i64 0), (.int .i64 0), (.int .i64 0), (.int .i64 0)]) 72 rfl Tryd.underlying23 info77 rfl (by decide) (by omega) u5 x5_1 (⟨a1_0, a1_1, a1_2, a1_3, a1_4, a1_5, a1_6⟩ : S77) [.string a1_0, .string a1_1, .int .i64 a1_2, .int .i64 a1_3, .int .i64 a1_4, .int .i64 a1_5, .int .i64 a1_6] (fun k_ => k_ ≠ zB) (fun _ => False) rfl rfl ?aP (fun _ hk => hk.elim) ?aF ?aO ?aB ?aS ?aL ?_; (case aP => exact k77_mkM _ _ _ (⟨a1_0, a1_1, a1_2, a1_3, a1_4, a1_5, a1_6⟩ : S77)); (case aB => exact (by exact bl HB.out)); (case aF => exact (fun k_ hk => Kd.freshB (g := zB) (o := .cells #[.string a1_0, .string a1_1, .int .i64 a1_2, .int .i64 a1_3, .int .i64 a1_4, .int .i64 a1_5, .int .i64 a1_6] 77 (0, 0)) (BL zA.out) k_ hk)); (case aO => exact (RL zC.out)); (case aS => exact (zm (by exact bl HB.out))); (case aL => have := LMc12.out; omega); intro v164 w21 ho hb hg hat; rw [← Ny163.out] at ho; have n0_ := Aside0.mk (blk_grown (g := zB) (o := .cells #[.string a1_0, .string a1_1, .int .i64 a1_2, .int .i64 a1_3, .int .i64 a1_4, .int .i64 a1_5, .int .i64 a1_6] 77 (0, 0)) (BL zA.out) hg (Kd.R_away zC.out (fun _ hk => hk))); have n1_ := Aside0.mk (hb); have n2_ := Aside0.mk (ho); clear zA; clear HB; clear zC; have zA := n0_; have HB := n1_; have zE := n2_; clear n0_ n1_ n2_; clear ho hb hg hat; have p166 : 0 ≤ (x7_1 : Int) := of_decide_eq_true (by with_reducible assumption); have q166 : x7_1 < (l0.length : Int) := of_decide_eq_true (by with_reducible assumption); obtain ⟨ad166, e166, hx166_0, hx166_1, hx166_2, hx166_3, hx166_4, hx166_5, hx166_6⟩ := at_T77 HR0.out x7_1 p166 q166; cases e166; replace hx166_0 := zb HB.out hx166_0; replace hx166_1 := zb HB.out hx166_1; replace hx166_2 := zb HB.out hx166_2; replace hx166_3 := zb HB.out hx166_3; replace hx166_4 := zb HB.out hx166_4; replace hx166_5 := zb HB.out hx166_5; replace hx166_6 := zb HB.out hx166_6; replace p166 := eq_true p166; replace q166 := eq_true q166; have zU : w21.cell? ⟨zB, 0, none⟩ = some (.string a1_0) := (zc zA.out 0).trans rfl; have zV : w21.cell? ⟨zB, 1, none⟩ = some (.string a1_1) := (zc zA.out 1).trans rfl; have zW : w21.cell? ⟨zB, 2, none⟩ = some (.int .i64 a1_2) := (zc zA.out 2).trans rfl; have zX : w21.cell? ⟨zB, 3, none⟩ = some (.int .i64 a1_3) := (zc zA.out 3).trans rfl; have zY : w21.cell? ⟨zB, 4, none⟩ = some (.int .i64 a1_4) := (zc zA.out 4).trans rfl; have zZ : w21.cell? ⟨zB, 5, none⟩ = some (.int .i64 a1_5) := (zc zA.out 5).trans rfl; have zab : w21.cell? ⟨zB, 6, none⟩ = some (.int .i64 a1_6) := (zc zA.out 6).trans rfl; have zbb := ze zA.out 0; have zcb := ze zA.out 1; have zdb := ze zA.out 2; have zeb := ze zA.out 3; have zfb := ze zA.out 4; have zgb := ze zA.out 5; have zhb := ze zA.out 6; have p167 : 0 ≤ (x7_1 : Int) := of_decide_eq_true (by with_reducible assumption); have q167 : x7_1 < (l0.length : Int) := of_decide_eq_true (by with_reducible assumption); obtain ⟨ad167, e167, hx167_0, hx167_1, hx167_2, hx167_3, hx167_4, hx167_5, hx167_6⟩ := at_T77 HR0.out x7_1 p167 q167; obtain rfl : ad166 = ad167 := (by injection e167); replace hx167_0 := zb HB.out hx167_0; replace hx167_1 := zb HB.out hx167_1; replace hx167_2 := zb HB.out hx167_2; replace hx167_3 := zb HB.out hx167_3; replace hx167_4 := zb HB.out hx167_4; replace hx167_5 := zb HB.out hx167_5; replace hx167_6 := zb HB.out hx167_6; replace p167 := eq_true p167; replace q167 := eq_true q167) | ((with_reducible refine gate_builtin (b := .append) (xs := #[.tmp 39, .tmp 44]) rfl ?_); at_builtin; refine Kd.R_append k77 (w0 := w) w.heap.size rfl (.tmp 39) (.tmp 44) 23 77 (.agg #[(.string ⟨#[]⟩), (.string ⟨#[]⟩), (.int .i64 0), (.int .i64 0), (.int .i64 0), (.int .i64 0), (.int .i64 0)]) 72 rfl Tryd.underlying23 info77 rfl (by decide) (by omega) v164 y163 (⟨(rd_T77 l0 x7_1).f0, (rd_T77 l0 x7_1).f1, (rd_T77 l0 x7_1).f2, (rd_T77 l0 x7_1).f3, (rd_T77 l0 x7_1).f4, (rd_T77 l0 x7_1).f5, (rd_T77 l0 x7_1).f6⟩ : S77) [.string ((rd_T77 l0 x7_1).f0), .string ((rd_T77 l0 x7_1).f1), .int .i64 ((rd_T77 l0 x7_1).f2), .int .i64 ((rd_T77 l0 x7_1).f3), .int .i64 ((rd_T77 l0 x7_1).f4), .int .i64 ((rd_T77 l0 x7_1).f5), .int .i64 ((rd_T77 l0 x7_1).f6)] (fun k_ => k_ ≠ zB) (fun _ => False) rfl rfl ?aP (fun _ hk => hk.elim) ?aF ?aO ?aB ?aS ?aL ?_; (case aP => exact k77_mkM _ _ _ (⟨(rd_T77 l0 x7_1).f0, (rd_T77 l0 x7_1).f1, (rd_T77 l0 x7_1).f2, (rd_T77 l0 x7_1).f3, (rd_T77 l0 x7_1).f4, (rd_T77 l0 x7_1).f5, (rd_T77 l0 x7_1).f6⟩ : S77)); (case aB => exact (by exact bl HB.out)); (case aF => exact (fun k_ hk => Kd.freshB (g := zB) (o := .cells #[.string a1_0, .string a1_1, .int .i64 a1_2, .int .i64 a1_3, .int .i64 a1_4, .int .i64 a1_5, .int .i64 a1_6] 77 (0, 0)) (BL zA.out) k_ hk)); (case aO => exact (RL zE.out)); (case aS => exact (zm (by exact bl HB.out))); (case aL => have := LMc19.out; omega); intro v169 w23 ho hb hg hat; rw [← Ny168.out] at ho; have n0_ := Aside0.mk (blk_grown (g := zB) (o := .cells #[.string a1_0, .string a1_1, .int .i64 a1_2, .int .i64 a1_3, .int .i64 a1_4, .int .i64 a1_5, .int .i64 a1_6] 77 (0, 0)) (BL zA.out) hg (Kd.R_away zE.out (fun _ hk => hk))); have n1_ := Aside0.mk (hb); have n2_ := Aside0.mk (ho); clear zA; clear HB; clear zE; have zA := n0_; have HB := n1_; have zjb := n2_; clear n0_ n1_ n2_; clear ho hb hg hat)))
            go_roundg kj6
            case measure => have := HK1.out; have := HJ6.out; omega
            case rel => exact ⟨(y168), (true), (wrap64 (x7_1 + 1)), (by first | rfl | (simp [*]; done)), (by first | rfl | (simp [*]; done)), H', ⟨by have := HK1.out; have := HJ6.out; omega⟩, ⟨RL zjb.out⟩, ⟨BL zA.out⟩, ⟨by repeat (first | (with_reducible first | exact HB.out | apply zh | apply zf | apply zg | refine zd ?_ zD.out) | exact HB.out)⟩⟩
           ·rw [if_neg c19] at H
            exact absurd H (by simp)
         ·rw [if_neg c14] at H
          exact absurd H (by simp)
        ·rw [if_neg c13] at H
         exact absurd H (by simp)
       ·rw [if_neg c12] at H
        exact absurd H (by simp)
      ·replace c11 := Bool.eq_false_iff.mpr c11
       subst c11
       rw [if_neg (show ¬ (false = true) by decide)] at H
       by_cases c24 : 0 ≤ x7_1
       ·rw [if_pos c24] at H
        have c24b0 : decide (0 ≤ x7_1) = true := decide_eq_true c24
        clear c24
        by_cases c25 : x7_1 < (l0.length : Int)
        ·rw [if_pos c25] at H
         have c25b0 : decide (x7_1 < (l0.length : Int)) = true := decide_eq_true c25
         clear c25
         by_cases c26 : ((rd_T77 l0 x7_1).f0).toList = a1_0.toList
         ·rw [if_pos c26] at H
          have c26b0 : (((rd_T77 l0 x7_1).f0).toList == a1_0.toList) = true := beq_iff_eq.mpr c26
          have c26b1 : (((rd_T77 l0 x7_1).f0).toList != a1_0.toList) = false := bne_eq_false_iff_eq.mpr c26
          clear c26
          have H' := Aside0.mk H
          clear H
          have p171 : 0 ≤ (x7_1 : Int) := of_decide_eq_true (by with_reducible assumption)
          have q171 : x7_1 < (l0.length : Int) := of_decide_eq_true (by with_reducible assumption)
          obtain ⟨ad171, e171, hx171_0, hx171_1, hx171_2, hx171_3, hx171_4, hx171_5, hx171_6⟩ := at_T77 (Kd.C_below HR0.out HB.out) x7_1 p171 q171
          cases e171
          replace p171 := eq_true p171
          replace q171 := eq_true q171
          have zcc : wc.cell? ⟨zB, 0, none⟩ = some (.string a1_0) := (zc zA.out 0).trans rfl
          have zdc : wc.cell? ⟨zB, 1, none⟩ = some (.string a1_1) := (zc zA.out 1).trans rfl
          have zec : wc.cell? ⟨zB, 2, none⟩ = some (.int .i64 a1_2) := (zc zA.out 2).trans rfl
          have zfc : wc.cell? ⟨zB, 3, none⟩ = some (.int .i64 a1_3) := (zc zA.out 3).trans rfl
          have zgc : wc.cell? ⟨zB, 4, none⟩ = some (.int .i64 a1_4) := (zc zA.out 4).trans rfl
          have zhc : wc.cell? ⟨zB, 5, none⟩ = some (.int .i64 a1_5) := (zc zA.out 5).trans rfl
          have zic : wc.cell? ⟨zB, 6, none⟩ = some (.int .i64 a1_6) := (zc zA.out 6).trans rfl
          have zjc := ze zA.out 0
          have zkc := ze zA.out 1
          have zlc := ze zA.out 2
          have zmc := ze zA.out 3
          have znc := ze zA.out 4
          have zoc := ze zA.out 5
          have zpc := ze zA.out 6
          go_wp2
          repeat (go_quiet (fail); try go_wp2)
          go_roundg kj6
          case measure => have := HK1.out; have := HJ6.out; omega
          case rel => exact ⟨(x5_1), (x6_1), (wrap64 (x7_1 + 1)), (by first | rfl | (simp [*]; done)), (by first | rfl | (simp [*]; done)), H', ⟨by have := HK1.out; have := HJ6.out; omega⟩, ⟨RL zC.out⟩, ⟨BL zA.out⟩, ⟨by repeat (first | (with_reducible first | exact HB.out | apply zh | apply zf | apply zg | refine zd ?_ zD.out) | exact HB.out)⟩⟩
         ·rw [if_neg c26] at H
          have c26b0 : (((rd_T77 l0 x7_1).f0).toList == a1_0.toList) = false := beq_eq_false_iff_ne.mpr c26
          have c26b1 : (((rd_T77 l0 x7_1).f0).toList != a1_0.toList) = true := bne_iff_ne.mpr c26
          by_cases c28 : x5_1.length < 1954687338268
          ·rw [if_pos c28] at H
           have LMc28 := Aside0.mk c28
           clear c28
           obtain ⟨y173, hy173⟩ : ∃ y_ : List (S77), y_ = (x5_1 ++ [(⟨(rd_T77 l0 x7_1).f0, (rd_T77 l0 x7_1).f1, (rd_T77 l0 x7_1).f2, (rd_T77 l0 x7_1).f3, (rd_T77 l0 x7_1).f4, (rd_T77 l0 x7_1).f5, (rd_T77 l0 x7_1).f6⟩ : S77)]) := ⟨_, rfl⟩
           replace H : (spec_l3With.l0 kj6 l0 y173 x6_1 (wrap64 (x7_1 + 1)) a1_0 a1_1 a1_2 a1_3 a1_4 a1_5 a1_6) = some r := by first | (rw [hy173]; with_reducible exact H) | (have H2_ := (Option.bind_some _ _).symm.trans H; rw [hy173]; with_reducible exact H2_) | (have H2_ := (Option.bind_some _ _).symm.trans H; with_reducible exact H2_) | with_reducible exact H | (rw [hy173]; exact H) | exact H
           have Ny173 := Aside0.mk hy173
           clear hy173
           have H' := Aside0.mk H
           clear H
           have p171 : 0 ≤ (x7_1 : Int) := of_decide_eq_true (by with_reducible assumption)
           have q171 : x7_1 < (l0.length : Int) := of_decide_eq_true (by with_reducible assumption)
           obtain ⟨ad171, e171, hx171_0, hx171_1, hx171_2, hx171_3, hx171_4, hx171_5, hx171_6⟩ := at_T77 (Kd.C_below HR0.out HB.out) x7_1 p171 q171
           cases e171
           replace p171 := eq_true p171
           replace q171 := eq_true q171
           have zqc : wc.cell? ⟨zB, 0, none⟩ = some (.string a1_0) := (zc zA.out 0).trans rfl
           have zrc : wc.cell? ⟨zB, 1, none⟩ = some (.string a1_1) := (zc zA.out 1).trans rfl
           have zsc : wc.cell? ⟨zB, 2, none⟩ = some (.int .i64 a1_2) := (zc zA.out 2).trans rfl
           have ztc : wc.cell? ⟨zB, 3, none⟩ = some (.int .i64 a1_3) := (zc zA.out 3).trans rfl
           have zuc : wc.cell? ⟨zB, 4, none⟩ = some (.int .i64 a1_4) := (zc zA.out 4).trans rfl
           have zvc : wc.cell? ⟨zB, 5, none⟩ = some (.int .i64 a1_5) := (zc zA.out 5).trans rfl
           have zwc : wc.cell? ⟨zB, 6, none⟩ = some (.int .i64 a1_6) := (zc zA.out 6).trans rfl
           have zxc := ze zA.out 0
           have zyc := ze zA.out 1
           have zzc := ze zA.out 2
           have zAc := ze zA.out 3
           have zBc := ze zA.out 4
           have zCc := ze zA.out 5
           have zDc := ze zA.out 6
           have p172 : 0 ≤ (x7_1 : Int) := of_decide_eq_true (by with_reducible assumption)
           have q172 : x7_1 < (l0.length : Int) := of_decide_eq_true (by with_reducible assumption)
           obtain ⟨ad172, e172, hx172_0, hx172_1, hx172_2, hx172_3, hx172_4, hx172_5, hx172_6⟩ := at_T77 HR0.out x7_1 p172 q172
           obtain rfl : ad171 = ad172 := (by injection e172)
           replace hx172_0 := zb HB.out hx172_0
           replace hx172_1 := zb HB.out hx172_1
           replace hx172_2 := zb HB.out hx172_2
           replace hx172_3 := zb HB.out hx172_3
           replace hx172_4 := zb HB.out hx172_4
           replace hx172_5 := zb HB.out hx172_5
           replace hx172_6 := zb HB.out hx172_6
           replace p172 := eq_true p172
           replace q172 := eq_true q172
           go_wp2_with (first | ((with_reducible refine gate_builtin (b := .append) (xs := #[.tmp 39, .tmp 44]) rfl ?_); at_builtin; refine Kd.R_append k77 (w0 := w) w.heap.size rfl (.tmp 39) (.tmp 44) 23 77 (.agg #[(.string ⟨#[]⟩), (.string ⟨#[]⟩), (.int .i64 0), (.int .i64 0), (.int .i64 0), (.int .i64 0), (.int .i64 0)]) 72 rfl Tryd.underlying23 info77 rfl (by decide) (by omega) u5 x5_1 (⟨(rd_T77 l0 x7_1).f0, (rd_T77 l0 x7_1).f1, (rd_T77 l0 x7_1).f2, (rd_T77 l0 x7_1).f3, (rd_T77 l0 x7_1).f4, (rd_T77 l0 x7_1).f5, (rd_T77 l0 x7_1).f6⟩ : S77) [.string ((rd_T77 l0 x7_1).f0), .string ((rd_T77 l0 x7_1).f1), .int .i64 ((rd_T77 l0 x7_1).f2), .int .i64 ((rd_T77 l0 x7_1).f3), .int .i64 ((rd_T77 l0 x7_1).f4), .int .i64 ((rd_T77 l0 x7_1).f5), .int .i64 ((rd_T77 l0 x7_1).f6)] (fun k_ => k_ ≠ zB) (fun _ => False) rfl rfl ?aP (fun _ hk => hk.elim) ?aF ?aO ?aB ?aS ?aL ?_; (case aP => exact k77_mkM _ _ _ (⟨(rd_T77 l0 x7_1).f0, (rd_T77 l0 x7_1).f1, (rd_T77 l0 x7_1).f2, (rd_T77 l0 x7_1).f3, (rd_T77 l0 x7_1).f4, (rd_T77 l0 x7_1).f5, (rd_T77 l0 x7_1).f6⟩ : S77)); (case aB => exact (by exact bl HB.out)); (case aF => exact (fun k_ hk => Kd.freshB (g := zB) (o := .cells #[.string a1_0, .string a1_1, .int .i64 a1_2, .int .i64 a1_3, .int .i64 a1_4, .int .i64 a1_5, .int .i64 a1_6] 77 (0, 0)) (BL zA.out) k_ hk)); (case aO => exact (RL zC.out)); (case aS => exact (zm (by exact bl HB.out))); (case aL => have := LMc28.out; omega); intro v174 w30 ho hb hg hat; rw [← Ny173.out] at ho; have n0_ := Aside0.mk (blk_grown (g := zB) (o := .cells #[.string a1_0, .string a1_1, .int .i64 a1_2, .int .i64 a1_3, .int .i64 a1_4, .int .i64 a1_5, .int .i64 a1_6] 77 (0, 0)) (BL zA.out) hg (Kd.R_away zC.out (fun _ hk => hk))); have n1_ := Aside0.mk (hb); have n2_ := Aside0.mk (ho); clear zA; clear HB; clear zC; have zA := n0_; have HB := n1_; have zkb := n2_; clear n0_ n1_ n2_; clear ho hb hg hat))
           repeat (go_quiet (first | ((with_reducible refine gate_builtin (b := .append) (xs := #[.tmp 39, .tmp 44]) rfl ?_); at_builtin; refine Kd.R_append k77 (w0 := w) w.heap.size rfl (.tmp 39) (.tmp 44) 23 77 (.agg #[(.string ⟨#[]⟩), (.string ⟨#[]⟩), (.int .i64 0), (.int .i64 0), (.int .i64 0), (.int .i64 0), (.int .i64 0)]) 72 rfl Tryd.underlying23 info77 rfl (by decide) (by omega) u5 x5_1 (⟨(rd_T77 l0 x7_1).f0, (rd_T77 l0 x7_1).f1, (rd_T77 l0 x7_1).f2, (rd_T77 l0 x7_1).f3, (rd_T77 l0 x7_1).f4, (rd_T77 l0 x7_1).f5, (rd_T77 l0 x7_1).f6⟩ : S77) [.string ((rd_T77 l0 x7_1).f0), .string ((rd_T77 l0 x7_1).f1), .int .i64 ((rd_T77 l0 x7_1).f2), .int .i64 ((rd_T77 l0 x7_1).f3), .int .i64 ((rd_T77 l0 x7_1).f4), .int .i64 ((rd_T77 l0 x7_1).f5), .int .i64 ((rd_T77 l0 x7_1).f6)] (fun k_ => k_ ≠ zB) (fun _ => False) rfl rfl ?aP (fun _ hk => hk.elim) ?aF ?aO ?aB ?aS ?aL ?_; (case aP => exact k77_mkM _ _ _ (⟨(rd_T77 l0 x7_1).f0, (rd_T77 l0 x7_1).f1, (rd_T77 l0 x7_1).f2, (rd_T77 l0 x7_1).f3, (rd_T77 l0 x7_1).f4, (rd_T77 l0 x7_1).f5, (rd_T77 l0 x7_1).f6⟩ : S77)); (case aB => exact (by repeat (first | (with_reducible first | exact HB.out | apply zh | apply zf | apply zg | refine zd ?_ zD.out) | exact HB.out))); (case aF => exact (fun k_ hk => Kd.freshB (g := zB) (o := .cells #[.string a1_0, .string a1_1, .int .i64 a1_2, .int .i64 a1_3, .int .i64 a1_4, .int .i64 a1_5, .int .i64 a1_6] 77 (0, 0)) (BL zA.out) k_ hk)); (case aO => exact (RL zC.out)); (case aS => exact (zm (by repeat (first | (with_reducible first | exact HB.out | apply zh | apply zf | apply zg | refine zd ?_ zD.out) | exact HB.out)))); (case aL => have := LMc28.out; omega); intro v174 w30 ho hb hg hat; rw [← Ny173.out] at ho; have n0_ := Aside0.mk (blk_grown (g := zB) (o := .cells #[.string a1_0, .string a1_1, .int .i64 a1_2, .int .i64 a1_3, .int .i64 a1_4, .int .i64 a1_5, .int .i64 a1_6] 77 (0, 0)) (BL zA.out) hg (Kd.R_away zC.out (fun _ hk => hk))); have n1_ := Aside0.mk (hb); have n2_ := Aside0.mk (ho); clear zA; clear HB; clear zC; have zA := n0_; have HB := n1_; have zkb := n2_; clear n0_ n1_ n2_; clear ho hb hg hat)); try go_wp2_with (first | ((with_reducible refine gate_builtin (b := .append) (xs := #[.tmp 39, .tmp 44]) rfl ?_); at_builtin; refine Kd.R_append k77 (w0 := w) w.heap.size rfl (.tmp 39) (.tmp 44) 23 77 (.agg #[(.string ⟨#[]⟩), (.string ⟨#[]⟩), (.int .i64 0), (.int .i64 0), (.int .i64 0), (.int .i64 0), (.int .i64 0)]) 72 rfl Tryd.underlying23 info77 rfl (by decide) (by omega) u5 x5_1 (⟨(rd_T77 l0 x7_1).f0, (rd_T77 l0 x7_1).f1, (rd_T77 l0 x7_1).f2, (rd_T77 l0 x7_1).f3, (rd_T77 l0 x7_1).f4, (rd_T77 l0 x7_1).f5, (rd_T77 l0 x7_1).f6⟩ : S77) [.string ((rd_T77 l0 x7_1).f0), .string ((rd_T77 l0 x7_1).f1), .int .i64 ((rd_T77 l0 x7_1).f2), .int .i64 ((rd_T77 l0 x7_1).f3), .int .i64 ((rd_T77 l0 x7_1).f4), .int .i64 ((rd_T77 l0 x7_1).f5), .int .i64 ((rd_T77 l0 x7_1).f6)] (fun k_ => k_ ≠ zB) (fun _ => False) rfl rfl ?aP (fun _ hk => hk.elim) ?aF ?aO ?aB ?aS ?aL ?_; (case aP => exact k77_mkM _ _ _ (⟨(rd_T77 l0 x7_1).f0, (rd_T77 l0 x7_1).f1, (rd_T77 l0 x7_1).f2, (rd_T77 l0 x7_1).f3, (rd_T77 l0 x7_1).f4, (rd_T77 l0 x7_1).f5, (rd_T77 l0 x7_1).f6⟩ : S77)); (case aB => exact (by exact bl HB.out)); (case aF => exact (fun k_ hk => Kd.freshB (g := zB) (o := .cells #[.string a1_0, .string a1_1, .int .i64 a1_2, .int .i64 a1_3, .int .i64 a1_4, .int .i64 a1_5, .int .i64 a1_6] 77 (0, 0)) (BL zA.out) k_ hk)); (case aO => exact (RL zC.out)); (case aS => exact (zm (by exact bl HB.out))); (case aL => have := LMc28.out; omega); intro v174 w30 ho hb hg hat; rw [← Ny173.out] at ho; have n0_ := Aside0.mk (blk_grown (g := zB) (o := .cells #[.string a1_0, .string a1_1, .int .i64 a1_2, .int .i64 a1_3, .int .i64 a1_4, .int .i64 a1_5, .int .i64 a1_6] 77 (0, 0)) (BL zA.out) hg (Kd.R_away zC.out (fun _ hk => hk))); have n1_ := Aside0.mk (hb); have n2_ := Aside0.mk (ho); clear zA; clear HB; clear zC; have zA := n0_; have HB := n1_; have zkb := n2_; clear n0_ n1_ n2_; clear ho hb hg hat)))
           go_roundg kj6
           case measure => have := HK1.out; have := HJ6.out; omega
           case rel => exact ⟨(y173), (x6_1), (wrap64 (x7_1 + 1)), (by first | rfl | (simp [*]; done)), (by first | rfl | (simp [*]; done)), H', ⟨by have := HK1.out; have := HJ6.out; omega⟩, ⟨RL zkb.out⟩, ⟨BL zA.out⟩, ⟨by repeat (first | (with_reducible first | exact HB.out | apply zh | apply zf | apply zg | refine zd ?_ zD.out) | exact HB.out)⟩⟩
          ·rw [if_neg c28] at H
           exact absurd H (by simp)
        ·rw [if_neg c25] at H
         exact absurd H (by simp)
       ·rw [if_neg c24] at H
        exact absurd H (by simp)
   ·rw [if_neg c6] at H
    have c6b0 : decide (x7_1 < (l0.length : Int)) = false := decide_eq_false c6
    clear c6
    by_cases c31 : x6_1 = true
    ·subst c31
     rw [if_pos rfl] at H
     obtain rfl := Option.some.inj H
     go_wp2
     repeat (go_quiet (fail); try go_wp2)
     go_ret
     exact ⟨_, by first | rfl | (simp [*] <;> rfl), RL (Kd.R_mono zC.out (fun _ hk => trivial)), by repeat (first | (with_reducible first | exact HB.out | apply zh | apply zf | apply zg | refine zd ?_ zD.out) | exact HB.out)⟩
    ·replace c31 := Bool.eq_false_iff.mpr c31
     subst c31
     rw [if_neg (show ¬ (false = true) by decide)] at H
     by_cases c32 : x5_1.length < 1954687338268
     ·rw [if_pos c32] at H
      have LMc32 := Aside0.mk c32
      clear c32
      obtain ⟨y159, hy159⟩ : ∃ y_ : List (S77), y_ = (x5_1 ++ [(⟨a1_0, a1_1, a1_2, a1_3, a1_4, a1_5, a1_6⟩ : S77)]) := ⟨_, rfl⟩
      replace H : (some y159) = some r := by first | (rw [hy159]; with_reducible exact H) | (have H2_ := (Option.bind_some _ _).symm.trans H; rw [hy159]; with_reducible exact H2_) | (have H2_ := (Option.bind_some _ _).symm.trans H; with_reducible exact H2_) | with_reducible exact H | (rw [hy159]; exact H) | exact H
      have Ny159 := Aside0.mk hy159
      clear hy159
      obtain rfl := Option.some.inj H
      have zEc : wr.cell? ⟨zB, 0, none⟩ = some (.string a1_0) := (zc zA.out 0).trans rfl
      have zFc : wr.cell? ⟨zB, 1, none⟩ = some (.string a1_1) := (zc zA.out 1).trans rfl
      have zGc : wr.cell? ⟨zB, 2, none⟩ = some (.int .i64 a1_2) := (zc zA.out 2).trans rfl
      have zHc : wr.cell? ⟨zB, 3, none⟩ = some (.int .i64 a1_3) := (zc zA.out 3).trans rfl
      have zIc : wr.cell? ⟨zB, 4, none⟩ = some (.int .i64 a1_4) := (zc zA.out 4).trans rfl
      have zJc : wr.cell? ⟨zB, 5, none⟩ = some (.int .i64 a1_5) := (zc zA.out 5).trans rfl
      have zKc : wr.cell? ⟨zB, 6, none⟩ = some (.int .i64 a1_6) := (zc zA.out 6).trans rfl
      have zLc := ze zA.out 0
      have zMc := ze zA.out 1
      have zNc := ze zA.out 2
      have zOc := ze zA.out 3
      have zPc := ze zA.out 4
      have zQc := ze zA.out 5
      have zRc := ze zA.out 6
      go_wp2_with (first | ((with_reducible refine gate_builtin (b := .append) (xs := #[.tmp 48, .tmp 50]) rfl ?_); at_builtin; refine Kd.R_append k77 (w0 := w) w.heap.size rfl (.tmp 48) (.tmp 50) 23 77 (.agg #[(.string ⟨#[]⟩), (.string ⟨#[]⟩), (.int .i64 0), (.int .i64 0), (.int .i64 0), (.int .i64 0), (.int .i64 0)]) 72 rfl Tryd.underlying23 info77 rfl (by decide) (by omega) u5 x5_1 (⟨a1_0, a1_1, a1_2, a1_3, a1_4, a1_5, a1_6⟩ : S77) [.string a1_0, .string a1_1, .int .i64 a1_2, .int .i64 a1_3, .int .i64 a1_4, .int .i64 a1_5, .int .i64 a1_6] (fun k_ => k_ ≠ zB) (fun _ => False) rfl rfl ?aP (fun _ hk => hk.elim) ?aF ?aO ?aB ?aS ?aL ?_; (case aP => exact k77_mkM _ _ _ (⟨a1_0, a1_1, a1_2, a1_3, a1_4, a1_5, a1_6⟩ : S77)); (case aB => exact (by exact bl HB.out)); (case aF => exact (fun k_ hk => Kd.freshB (g := zB) (o := .cells #[.string a1_0, .string a1_1, .int .i64 a1_2, .int .i64 a1_3, .int .i64 a1_4, .int .i64 a1_5, .int .i64 a1_6] 77 (0, 0)) (BL zA.out) k_ hk)); (case aO => exact (RL zC.out)); (case aS => exact (zm (by exact bl HB.out))); (case aL => have := LMc32.out; omega); intro v160 w34 ho hb hg hat; rw [← Ny159.out] at ho; have n0_ := Aside0.mk (blk_grown (g := zB) (o := .cells #[.string a1_0, .string a1_1, .int .i64 a1_2, .int .i64 a1_3, .int .i64 a1_4, .int .i64 a1_5, .int .i64 a1_6] 77 (0, 0)) (BL zA.out) hg (Kd.R_away zC.out (fun _ hk => hk))); have n1_ := Aside0.mk (hb); have n2_ := Aside0.mk (ho); clear zA; clear HB; clear zC; have zA := n0_; have HB := n1_; have zlb := n2_; clear n0_ n1_ n2_; clear ho hb hg hat))
      repeat (go_quiet (first | ((with_reducible refine gate_builtin (b := .append) (xs := #[.tmp 48, .tmp 50]) rfl ?_); at_builtin; refine Kd.R_append k77 (w0 := w) w.heap.size rfl (.tmp 48) (.tmp 50) 23 77 (.agg #[(.string ⟨#[]⟩), (.string ⟨#[]⟩), (.int .i64 0), (.int .i64 0), (.int .i64 0), (.int .i64 0), (.int .i64 0)]) 72 rfl Tryd.underlying23 info77 rfl (by decide) (by omega) u5 x5_1 (⟨a1_0, a1_1, a1_2, a1_3, a1_4, a1_5, a1_6⟩ : S77) [.string a1_0, .string a1_1, .int .i64 a1_2, .int .i64 a1_3, .int .i64 a1_4, .int .i64 a1_5, .int .i64 a1_6] (fun k_ => k_ ≠ zB) (fun _ => False) rfl rfl ?aP (fun _ hk => hk.elim) ?aF ?aO ?aB ?aS ?aL ?_; (case aP => exact k77_mkM _ _ _ (⟨a1_0, a1_1, a1_2, a1_3, a1_4, a1_5, a1_6⟩ : S77)); (case aB => exact (by repeat (first | (with_reducible first | exact HB.out | apply zh | apply zf | apply zg | refine zd ?_ zD.out) | exact HB.out))); (case aF => exact (fun k_ hk => Kd.freshB (g := zB) (o := .cells #[.string a1_0, .string a1_1, .int .i64 a1_2, .int .i64 a1_3, .int .i64 a1_4, .int .i64 a1_5, .int .i64 a1_6] 77 (0, 0)) (BL zA.out) k_ hk)); (case aO => exact (RL zC.out)); (case aS => exact (zm (by repeat (first | (with_reducible first | exact HB.out | apply zh | apply zf | apply zg | refine zd ?_ zD.out) | exact HB.out)))); (case aL => have := LMc32.out; omega); intro v160 w34 ho hb hg hat; rw [← Ny159.out] at ho; have n0_ := Aside0.mk (blk_grown (g := zB) (o := .cells #[.string a1_0, .string a1_1, .int .i64 a1_2, .int .i64 a1_3, .int .i64 a1_4, .int .i64 a1_5, .int .i64 a1_6] 77 (0, 0)) (BL zA.out) hg (Kd.R_away zC.out (fun _ hk => hk))); have n1_ := Aside0.mk (hb); have n2_ := Aside0.mk (ho); clear zA; clear HB; clear zC; have zA := n0_; have HB := n1_; have zlb := n2_; clear n0_ n1_ n2_; clear ho hb hg hat)); try go_wp2_with (first | ((with_reducible refine gate_builtin (b := .append) (xs := #[.tmp 48, .tmp 50]) rfl ?_); at_builtin; refine Kd.R_append k77 (w0 := w) w.heap.size rfl (.tmp 48) (.tmp 50) 23 77 (.agg #[(.string ⟨#[]⟩), (.string ⟨#[]⟩), (.int .i64 0), (.int .i64 0), (.int .i64 0), (.int .i64 0), (.int .i64 0)]) 72 rfl Tryd.underlying23 info77 rfl (by decide) (by omega) u5 x5_1 (⟨a1_0, a1_1, a1_2, a1_3, a1_4, a1_5, a1_6⟩ : S77) [.string a1_0, .string a1_1, .int .i64 a1_2, .int .i64 a1_3, .int .i64 a1_4, .int .i64 a1_5, .int .i64 a1_6] (fun k_ => k_ ≠ zB) (fun _ => False) rfl rfl ?aP (fun _ hk => hk.elim) ?aF ?aO ?aB ?aS ?aL ?_; (case aP => exact k77_mkM _ _ _ (⟨a1_0, a1_1, a1_2, a1_3, a1_4, a1_5, a1_6⟩ : S77)); (case aB => exact (by exact bl HB.out)); (case aF => exact (fun k_ hk => Kd.freshB (g := zB) (o := .cells #[.string a1_0, .string a1_1, .int .i64 a1_2, .int .i64 a1_3, .int .i64 a1_4, .int .i64 a1_5, .int .i64 a1_6] 77 (0, 0)) (BL zA.out) k_ hk)); (case aO => exact (RL zC.out)); (case aS => exact (zm (by exact bl HB.out))); (case aL => have := LMc32.out; omega); intro v160 w34 ho hb hg hat; rw [← Ny159.out] at ho; have n0_ := Aside0.mk (blk_grown (g := zB) (o := .cells #[.string a1_0, .string a1_1, .int .i64 a1_2, .int .i64 a1_3, .int .i64 a1_4, .int .i64 a1_5, .int .i64 a1_6] 77 (0, 0)) (BL zA.out) hg (Kd.R_away zC.out (fun _ hk => hk))); have n1_ := Aside0.mk (hb); have n2_ := Aside0.mk (ho); clear zA; clear HB; clear zC; have zA := n0_; have HB := n1_; have zlb := n2_; clear n0_ n1_ n2_; clear ho hb hg hat)))
      go_ret
      exact ⟨_, by first | rfl | (simp [*] <;> rfl), RL (Kd.R_mono zlb.out (fun _ hk => trivial)), by repeat (first | (with_reducible first | exact HB.out | apply zh | apply zf | apply zg | refine zd ?_ zD.out) | exact HB.out)⟩
     ·rw [if_neg c32] at H
      exact absurd H (by simp)

mutual
def spec_ApplyTxn.j0 : Nat → Bool → List (S77) → Int → List (S108) → Option ((List (S77)))
 | 0, _, _, _, _ => none
 | k + 1, x14, x177000, x178000, x178001 => if x14 = true then (some ([] : List (S77))) else ((spec_l3Without.f k x177000 (⟨#[]⟩ : ByteArray)).bind fun t181 => (spec_ApplyTxn.l0 k t181 0 x178000 x178001))
def spec_ApplyTxn.l0 : Nat → List (S77) → Int → Int → List (S108) → Option ((List (S77)))
 | 0, _, _, _, _ => none
 | k + 1, x5, x6, x178000, x178001 => if x6 < (x178001.length : Int) then (if 0 ≤ x6 then (if (rd_T108 x178001 x6).f0 = true then ((spec_l3Without.f k x5 ((rd_T108 x178001 x6).f1.f0)).bind fun t186 => (spec_ApplyTxn.l0 k t186 (wrap64 (x6 + 1)) x178000 x178001)) else ((spec_l3With.f k x5 ((rd_T108 x178001 x6).f1.f0) ((rd_T108 x178001 x6).f1.f1) ((rd_T108 x178001 x6).f1.f2) ((rd_T108 x178001 x6).f1.f3) ((rd_T108 x178001 x6).f1.f4) ((rd_T108 x178001 x6).f1.f5) ((rd_T108 x178001 x6).f1.f6)).bind fun t190 => (spec_ApplyTxn.l0 k t190 (wrap64 (x6 + 1)) x178000 x178001))) else (none)) else (some x5)
end
def spec_ApplyTxn.f (k : Nat) (l0_0 : List (S77)) (a1_0 : Int) (l1_1 : List (S108)) : Option ((List (S77))) := (spec_ValidTree.f k l0_0).bind fun t179 => (if t179 = true then ((spec_ValidTxn.f k a1_0 l1_1).bind fun t180 => (spec_ApplyTxn.j0 k (!t180) l0_0 a1_0 l1_1)) else (spec_ApplyTxn.j0 k true l0_0 a1_0 l1_1))
theorem spec_ApplyTxn.mono_l : ∀ k, (∀ y0 y1 y2 y3, LeO (spec_ApplyTxn.j0 k y0 y1 y2 y3) (spec_ApplyTxn.j0 (k + 1) y0 y1 y2 y3)) ∧ (∀ y0 y1 y2 y3, LeO (spec_ApplyTxn.l0 k y0 y1 y2 y3) (spec_ApplyTxn.l0 (k + 1) y0 y1 y2 y3))
 | 0 => ⟨fun _ _ _ _ r h => by simp [spec_ApplyTxn.j0] at h, fun _ _ _ _ r h => by simp [spec_ApplyTxn.l0] at h⟩
 | k + 1 => by
  obtain ⟨ih0, ih1⟩ := spec_ApplyTxn.mono_l k
  refine ⟨?_, ?_⟩
  ·intro y0 y1 y2 y3
   unfold spec_ApplyTxn.j0
   repeat' first
   | (with_reducible exact ih0 _ _ _ _)
   | (with_reducible exact ih1 _ _ _ _)
   | (with_reducible exact spec_ValidTree.mono _ _)
   | (with_reducible exact spec_ValidTxn.mono _ _ _)
   | (with_reducible exact spec_l3With.mono _ _ _ _ _ _ _ _ _)
   | (with_reducible exact spec_l3Without.mono _ _ _)
   | (with_reducible exact LeO.refl _)
   | (with_reducible exact LeO.none _)
   | (with_reducible refine LeO.ite ?_ ?_)
   | (with_reducible refine LeO.bind ?_ (fun _ => ?_))
   | exact ih0 _ _ _ _
   | exact ih1 _ _ _ _
   | exact spec_ValidTree.mono _ _
   | exact spec_ValidTxn.mono _ _ _
   | exact spec_l3With.mono _ _ _ _ _ _ _ _ _
   | exact spec_l3Without.mono _ _ _
   | exact LeO.none _
   | refine LeO.ite ?_ ?_
   | refine LeO.bind ?_ (fun _ => ?_)
  ·intro y0 y1 y2 y3
   unfold spec_ApplyTxn.l0
   repeat' first
   | (with_reducible exact ih0 _ _ _ _)
   | (with_reducible exact ih1 _ _ _ _)
   | (with_reducible exact spec_ValidTree.mono _ _)
   | (with_reducible exact spec_ValidTxn.mono _ _ _)
   | (with_reducible exact spec_l3With.mono _ _ _ _ _ _ _ _ _)
   | (with_reducible exact spec_l3Without.mono _ _ _)
   | (with_reducible exact LeO.refl _)
   | (with_reducible exact LeO.none _)
   | (with_reducible refine LeO.ite ?_ ?_)
   | (with_reducible refine LeO.bind ?_ (fun _ => ?_))
   | exact ih0 _ _ _ _
   | exact ih1 _ _ _ _
   | exact spec_ValidTree.mono _ _
   | exact spec_ValidTxn.mono _ _ _
   | exact spec_l3With.mono _ _ _ _ _ _ _ _ _
   | exact spec_l3Without.mono _ _ _
   | exact LeO.none _
   | refine LeO.ite ?_ ?_
   | refine LeO.bind ?_ (fun _ => ?_)
theorem spec_ApplyTxn.mono : ∀ a0 a1 a2 k, LeO (spec_ApplyTxn.f k a0 a1 a2) (spec_ApplyTxn.f (k + 1) a0 a1 a2) := by
 intro a0 a1 a2 k
 obtain ⟨ih0, ih1⟩ := spec_ApplyTxn.mono_l k
 unfold spec_ApplyTxn.f
 repeat' first
   | (with_reducible exact ih0 _ _ _ _)
   | (with_reducible exact ih1 _ _ _ _)
   | (with_reducible exact spec_ValidTree.mono _ _)
   | (with_reducible exact spec_ValidTxn.mono _ _ _)
   | (with_reducible exact spec_l3With.mono _ _ _ _ _ _ _ _ _)
   | (with_reducible exact spec_l3Without.mono _ _ _)
   | (with_reducible exact LeO.refl _)
   | (with_reducible exact LeO.none _)
   | (with_reducible refine LeO.ite ?_ ?_)
   | (with_reducible refine LeO.bind ?_ (fun _ => ?_))
   | exact ih0 _ _ _ _
   | exact ih1 _ _ _ _
   | exact spec_ValidTree.mono _ _
   | exact spec_ValidTxn.mono _ _ _
   | exact spec_l3With.mono _ _ _ _ _ _ _ _ _
   | exact spec_l3Without.mono _ _ _
   | exact LeO.none _
   | refine LeO.ite ?_ ?_
   | refine LeO.bind ?_ (fun _ => ?_)
set_option maxHeartbeats 8000000 in
set_option maxRecDepth 100000 in
theorem spec_ApplyTxn.calls (k : Nat) (A0_0 : Option Addr) (c0_0 : Nat) (l0_0 : List (S77)) (a1_0 : Int) (A1_1 : Option Addr) (c1_1 : Nat) (l1_1 : List (S108)) (r : List (S77)) (w : World) (hr0_0 : Kd.C k77 w A0_0 l0_0.length l0_0) (hc0_0 : l0_0.length ≤ c0_0) (hr1_1 : Kd.C k108 w A1_1 l1_1.length l1_1) (hc1_1 : l1_1.length ≤ c1_1) (h : spec_ApplyTxn.f k l0_0 a1_0 l1_1 = some r) :
  Calls Tryd.prog 18 #[.agg #[.slice A0_0 l0_0.length c0_0], .agg #[.int .i64 a1_0, .slice A1_1 l1_1.length c1_1]] w fun e w' => ∃ v0_ : Value, e = .returned (.agg #[v0_]) ∧ Kd.R k77 77 w' w.heap.size (fun _ => True) v0_ r ∧ Below w.heap.size w w' := by
 have hu25 := Tryd.underlying25
 have hu55 := Tryd.underlying55
 have hu77 := Tryd.underlying77
 have HR0_0 := Aside0.mk hr0_0
 have HC0_0 := Aside0.mk hc0_0
 clear hr0_0 hc0_0
 have HR1_1 := Aside0.mk hr1_1
 have HC1_1 := Aside0.mk hc1_1
 clear hr1_1 hc1_1
 have HB := Aside0.mk (Below.refl w.heap.size w)
 have H : ((spec_ValidTree.f k l0_0).bind fun t179 => (if t179 = true then ((spec_ValidTxn.f k a1_0 l1_1).bind fun t180 => (spec_ApplyTxn.j0 k (!t180) l0_0 a1_0 l1_1)) else (spec_ApplyTxn.j0 k true l0_0 a1_0 l1_1))) = some r := h
 clear h
 have HC3 := Aside0.mk H
 clear H
 go_enter Tryd.func18, Tryd.ntmps18
 go_upto_region 1 with (first | ((with_reducible refine zu (N := 2) rfl ?_); refine zy ?hg (N := 2) ?hd (cs := #[.slice A0_0 l0_0.length c0_0]) (t := 25) ?hr ?_; (case hd => rfl); (case hg => rfl); (case hr => first | (go_simp; done) | (go_simp; rfl)); intro zE hg w4 hbox hb; have n0_ := Aside0.mk (zn (by exact bl HB.out) hb); have n1_ := Aside0.mk (hbox); have n2_ := Aside0.mk ((by rw [hg]; exact (zm (by exact bl HB.out)) : w.heap.size ≤ zE)); have n3_ := Aside0.mk ((by rw [hg]; exact (zm (by exact bl HB.out)) : w.heap.size ≤ zE)); clear HB; have HB := n0_; have zB := n1_; have GW176 := n2_; have zN := n3_; clear n0_ n1_ n2_ n3_; clear hb hbox hg) | ((with_reducible refine zu (N := 3) rfl ?_); refine zy ?hg (N := 3) ?hd (cs := #[.int .i64 a1_0, .slice A1_1 l1_1.length c1_1]) (t := 55) ?hr ?_; (case hd => rfl); (case hg => rfl); (case hr => first | (go_simp; done) | (go_simp; rfl)); intro zD hg w5 hbox hb; have n0_ := Aside0.mk (zi (g := zE) (o := .cells #[.slice A0_0 l0_0.length c0_0] 25 (0, 0)) (BL zB.out) hb); have n1_ := Aside0.mk (zn (by exact bl HB.out) hb); have n2_ := Aside0.mk (hbox); have n3_ := Aside0.mk ((by rw [hg]; exact (zm (by exact bl HB.out)) : w.heap.size ≤ zD)); have n4_ := Aside0.mk ((by rw [hg]; exact (zm (by exact bl HB.out)) : w.heap.size ≤ zD)); have n5_ := Aside0.mk ((by rw [hg]; exact Nat.ne_of_lt (zt (g := zE) (o := .cells #[.slice A0_0 l0_0.length c0_0] 25 (0, 0)) (BL zB.out)) : zE ≠ zD)); have n6_ := Aside0.mk ((by rw [hg]; exact Nat.ne_of_gt (zt (g := zE) (o := .cells #[.slice A0_0 l0_0.length c0_0] 25 (0, 0)) (BL zB.out)) : zD ≠ zE)); clear zB; clear HB; have zB := n0_; have HB := n1_; have zA := n2_; have GW177 := n3_; have zO := n4_; have zH := n5_; have zI := n6_; clear n0_ n1_ n2_ n3_ n4_ n5_ n6_; clear hb hbox hg) | ((with_reducible refine zu (N := 4) rfl ?_); refine zy ?hg (N := 4) ?hd (cs := #[.slice none 0 0]) (t := 25) ?hr ?_; (case hd => rfl); (case hg => rfl); (case hr => first | (go_simp; done) | (go_simp; rfl)); intro zF hg w6 hbox hb; have n0_ := Aside0.mk (zi (g := zE) (o := .cells #[.slice A0_0 l0_0.length c0_0] 25 (0, 0)) (BL zB.out) hb); have n1_ := Aside0.mk (zi (g := zD) (o := .cells #[.int .i64 a1_0, .slice A1_1 l1_1.length c1_1] 55 (0, 0)) (BL zA.out) hb); have n2_ := Aside0.mk (zn (by exact bl HB.out) hb); have n3_ := Aside0.mk (hbox); have n4_ := Aside0.mk ((by rw [hg]; exact (zm (by exact bl HB.out)) : w.heap.size ≤ zF)); have n5_ := Aside0.mk ((by rw [hg]; exact (zm (by exact bl HB.out)) : w.heap.size ≤ zF)); have n6_ := Aside0.mk ((by rw [hg]; exact Nat.ne_of_lt (zt (g := zE) (o := .cells #[.slice A0_0 l0_0.length c0_0] 25 (0, 0)) (BL zB.out)) : zE ≠ zF)); have n7_ := Aside0.mk ((by rw [hg]; exact Nat.ne_of_gt (zt (g := zE) (o := .cells #[.slice A0_0 l0_0.length c0_0] 25 (0, 0)) (BL zB.out)) : zF ≠ zE)); have n8_ := Aside0.mk ((by rw [hg]; exact Nat.ne_of_lt (zt (g := zD) (o := .cells #[.int .i64 a1_0, .slice A1_1 l1_1.length c1_1] 55 (0, 0)) (BL zA.out)) : zD ≠ zF)); have n9_ := Aside0.mk ((by rw [hg]; exact Nat.ne_of_gt (zt (g := zD) (o := .cells #[.int .i64 a1_0, .slice A1_1 l1_1.length c1_1] 55 (0, 0)) (BL zA.out)) : zF ≠ zD)); clear zB; clear zA; clear HB; have zB := n0_; have zA := n1_; have HB := n2_; have zC := n3_; have GW178 := n4_; have zP := n5_; have zJ := n6_; have zK := n7_; have zL := n8_; have zM := n9_; clear n0_ n1_ n2_ n3_ n4_ n5_ n6_ n7_ n8_ n9_; clear hb hbox hg))
 (try simp only [Act.put, List.setIfInBounds_toArray, List.set_cons_zero, List.set_cons_succ])
 go_cut [14] (fun v14 wc => ∃ (kq : Nat) (x14_2 : Bool), v14 = .bool x14_2 ∧ Aside0 (spec_ApplyTxn.j0 kq x14_2 l0_0 a1_0 l1_1 = some r) ∧ Aside0 (kq ≤ k) ∧ Aside0 (wc.heap[zE]? = some (.cells #[(.slice A0_0 l0_0.length c0_0)] 25 (0, 0))) ∧ Aside0 (wc.heap[zD]? = some (.cells #[.int .i64 a1_0, (.slice A1_1 l1_1.length c1_1)] 55 (0, 0))) ∧ Aside0 (wc.heap[zF]? = some (.cells #[(.slice none 0 0)] 25 (0, 0))) ∧ Aside0 (Below w.heap.size w wc))
 case first =>
  have H := HC3.out
  clear HC3
  replace H := Option.bind_eq_some_iff.mp H
  obtain ⟨t179, A70, H⟩ := H
  try dsimp only at H
  have A7 := Aside0.mk A70
  clear A70
  by_cases c8 : t179 = true
  ·subst c8
   rw [if_pos rfl] at H
   replace H := Option.bind_eq_some_iff.mp H
   obtain ⟨t180, A90, H⟩ := H
   try dsimp only at H
   have A9 := Aside0.mk A90
   clear A90
   have H' := Aside0.mk H
   clear H
   have zub := zH.out
   have zvb := zI.out
   have zwb := zJ.out
   have zxb := zK.out
   have zR : w6.cell? ⟨zE, 0, none⟩ = some (.slice A0_0 l0_0.length c0_0) := (zc zB.out 0).trans rfl
   have zS := ze zB.out 0
   go_wp2_with (first | ((with_reducible refine zr (f := 8) rfl ?_); refine zz (some 8) rfl rfl Tryd.func8 (by kernel_rfl) rfl #[.agg #[.slice A0_0 l0_0.length c0_0]] rfl (by (try simp only [List.map_toArray, List.map_cons, List.map_nil]); first | done | rfl) ?_; (with_reducible refine (spec_ValidTree.calls k _ _ l0_0 true _ ?side1 ?side2 A7.out).mono ?_); (case side1 => repeat (first | exact (Kd.C_below HR0_0.out HB.out) | (with_reducible refine Kd.C_alloc ?_ _) | (with_reducible refine Kd.C_drewN ?_ _) | (with_reducible refine Kd.C_drew ?_))); (case side2 => exact HC0_0.out); rintro e w13 ⟨rfl, hb⟩; refine ⟨_, rfl, ?_⟩; have n0_ := Aside0.mk (zi (g := zE) (o := .cells #[.slice A0_0 l0_0.length c0_0] 25 (0, 0)) (BL zB.out) hb); have n1_ := Aside0.mk (zi (g := zD) (o := .cells #[.int .i64 a1_0, .slice A1_1 l1_1.length c1_1] 55 (0, 0)) (BL zA.out) hb); have n2_ := Aside0.mk (zi (g := zF) (o := .cells #[.slice none 0 0] 25 (0, 0)) (BL zC.out) hb); have n3_ := Aside0.mk (zn (by exact bl HB.out) hb); clear zB; clear zA; clear zC; clear HB; have zB := n0_; have zA := n1_; have zC := n2_; have HB := n3_; clear n0_ n1_ n2_ n3_; (try clear hb); (try clear hb2); (try clear hk); (try clear hi); have zyb := zL.out; have zzb := zM.out; have zT : w13.cell? ⟨zD, 0, none⟩ = some (.int .i64 a1_0) := (zc zA.out 0).trans rfl; have zU : w13.cell? ⟨zD, 1, none⟩ = some (.slice A1_1 l1_1.length c1_1) := (zc zA.out 1).trans rfl; have zV := ze zA.out 0; have zW := ze zA.out 1) | (go_at_call 58; (with_reducible refine (spec_ValidTxn.calls k a1_0 _ _ l1_1 t180 _ ?side1 ?side2 A9.out).mono ?_); (case side1 => repeat (first | exact (Kd.C_below HR1_1.out HB.out) | (with_reducible refine Kd.C_alloc ?_ _) | (with_reducible refine Kd.C_drewN ?_ _) | (with_reducible refine Kd.C_drew ?_))); (case side2 => exact HC1_1.out); rintro e w16 ⟨rfl, hb⟩; have n0_ := Aside0.mk (zi (g := zE) (o := .cells #[.slice A0_0 l0_0.length c0_0] 25 (0, 0)) (BL zB.out) hb); have n1_ := Aside0.mk (zi (g := zD) (o := .cells #[.int .i64 a1_0, .slice A1_1 l1_1.length c1_1] 55 (0, 0)) (BL zA.out) hb); have n2_ := Aside0.mk (zi (g := zF) (o := .cells #[.slice none 0 0] 25 (0, 0)) (BL zC.out) hb); have n3_ := Aside0.mk (zn (by exact bl HB.out) hb); clear zB; clear zA; clear zC; clear HB; have zB := n0_; have zA := n1_; have zC := n2_; have HB := n3_; clear n0_ n1_ n2_ n3_; (try clear hb); (try clear hb2); (try clear hk); (try clear hi)))
   go_meet
   case rel => exact ⟨_, (!t180), (by first | rfl | (simp [*]; done)), H', ⟨by first | omega | exact Nat.le_refl _⟩, ⟨BL zB.out⟩, ⟨BL zA.out⟩, ⟨BL zC.out⟩, ⟨by repeat (first | (with_reducible first | exact HB.out | apply zh | apply zf | apply zg | refine zd ?_ zN.out | refine zd ?_ zO.out | refine zd ?_ zP.out) | exact HB.out)⟩⟩
  ·replace c8 := Bool.eq_false_iff.mpr c8
   subst c8
   rw [if_neg (show ¬ (false = true) by decide)] at H
   have H' := Aside0.mk H
   clear H
   have zAb := zH.out
   have zBb := zI.out
   have zCb := zJ.out
   have zDb := zK.out
   have zX : w6.cell? ⟨zE, 0, none⟩ = some (.slice A0_0 l0_0.length c0_0) := (zc zB.out 0).trans rfl
   have zY := ze zB.out 0
   go_wp2_with (first | ((with_reducible refine zr (f := 8) rfl ?_); refine zz (some 8) rfl rfl Tryd.func8 (by kernel_rfl) rfl #[.agg #[.slice A0_0 l0_0.length c0_0]] rfl (by (try simp only [List.map_toArray, List.map_cons, List.map_nil]); first | done | rfl) ?_; (with_reducible refine (spec_ValidTree.calls k _ _ l0_0 false _ ?side1 ?side2 A7.out).mono ?_); (case side1 => repeat (first | exact (Kd.C_below HR0_0.out HB.out) | (with_reducible refine Kd.C_alloc ?_ _) | (with_reducible refine Kd.C_drewN ?_ _) | (with_reducible refine Kd.C_drew ?_))); (case side2 => exact HC0_0.out); rintro e w20 ⟨rfl, hb⟩; refine ⟨_, rfl, ?_⟩; have n0_ := Aside0.mk (zi (g := zE) (o := .cells #[.slice A0_0 l0_0.length c0_0] 25 (0, 0)) (BL zB.out) hb); have n1_ := Aside0.mk (zi (g := zD) (o := .cells #[.int .i64 a1_0, .slice A1_1 l1_1.length c1_1] 55 (0, 0)) (BL zA.out) hb); have n2_ := Aside0.mk (zi (g := zF) (o := .cells #[.slice none 0 0] 25 (0, 0)) (BL zC.out) hb); have n3_ := Aside0.mk (zn (by exact bl HB.out) hb); clear zB; clear zA; clear zC; clear HB; have zB := n0_; have zA := n1_; have zC := n2_; have HB := n3_; clear n0_ n1_ n2_ n3_; (try clear hb); (try clear hb2); (try clear hk); (try clear hi)))
   go_meet
   case rel => exact ⟨_, (true), (by first | rfl | (simp [*]; done)), H', ⟨by first | omega | exact Nat.le_refl _⟩, ⟨BL zB.out⟩, ⟨BL zA.out⟩, ⟨BL zC.out⟩, ⟨by repeat (first | (with_reducible first | exact HB.out | apply zh | apply zf | apply zg | refine zd ?_ zN.out | refine zd ?_ zO.out | refine zd ?_ zP.out) | exact HB.out)⟩⟩
 case rest =>
  clear HC3
  try clear c1
  try clear p2
  try clear c8
  try clear c10
  try clear c11
  try clear c14
  try clear c17
  try clear c18
  try clear zR
  try clear zT
  try clear zU
  try clear zX
  try clear zS
  try clear zV
  try clear zW
  try clear zY
  obtain ⟨kq, x14_2, rfl, HA, HJ2, zB, zA, zC, HB⟩ := hcut
  cases kq with
  | zero => exact absurd HA.out (by simp [spec_ApplyTxn.j0])
  | succ kj2 =>
   have H := HA.out
   clear HA
   simp only [spec_ApplyTxn.j0] at H
   by_cases c21 : x14_2 = true
   ·subst c21
    rw [if_pos rfl] at H
    obtain rfl := Option.some.inj H
    have zEb := zK.out
    have zFb := zJ.out
    have zGb := zM.out
    have zHb := zL.out
    have zZ : wc.cell? ⟨zF, 0, none⟩ = some (.slice none 0 0) := (zc zC.out 0).trans rfl
    have zab := ze zC.out 0
    go_wp2
    refine bodyPost_ret (results_cell_row rfl _ _ zF 25 #[.slice none 0 0] (0, 0) _ rfl (by (with_reducible repeat (first | refine zk ?_ _ | refine zl ?_ | refine zj ?_ _)); refine zv (cs := #[.slice none 0 0]) ?_ 0 _ rfl; (with_reducible repeat (first | refine zk ?_ _ | refine zl ?_ | refine zj ?_ _)); exact zC.out) Tryd.underlying25 rfl (by kernel_rfl)) rfl ?_
    exact ⟨_, by first | rfl | (simp [*] <;> rfl), by first | exact Kd.R_nil _ _ _ _ _ | exact Kd.N_nil _ _ _ _ _ | exact Kd.V_nil _ _ _ _ _ | exact Kd.Q_nil _ _ _ _ _ | exact Kd.S_nil _ _ _ _ _, by repeat (first | (with_reducible first | exact HB.out | apply zh | apply zf | apply zg | refine zd ?_ zN.out | refine zd ?_ zO.out | refine zd ?_ zP.out) | exact HB.out)⟩
   ·replace c21 := Bool.eq_false_iff.mpr c21
    subst c21
    rw [if_neg (show ¬ (false = true) by decide)] at H
    replace H := Option.bind_eq_some_iff.mp H
    obtain ⟨t181, A250, H⟩ := H
    try dsimp only at H
    have A25 := Aside0.mk A250
    clear A250
    have H' := Aside0.mk H
    clear H
    have zIb := zH.out
    have zJb := zI.out
    have zKb := zJ.out
    have zLb := zK.out
    have zbb : wc.cell? ⟨zE, 0, none⟩ = some (.slice A0_0 l0_0.length c0_0) := (zc zB.out 0).trans rfl
    have zcb := ze zB.out 0
    go_wp2_with (first | ((with_reducible refine zr (f := 59) rfl ?_); refine zz (some 18) rfl rfl Tryd.func59 (by kernel_rfl) rfl #[.slice A0_0 l0_0.length c0_0, .string (⟨#[]⟩ : ByteArray)] rfl (by (try simp only [List.map_toArray, List.map_cons, List.map_nil]); first | done | rfl) ?_; (with_reducible refine (spec_l3Without.calls kj2 _ _ l0_0 (⟨#[]⟩ : ByteArray) t181 _ ?side1 ?side2 A25.out).mono ?_); (case side1 => repeat (first | exact (Kd.C_below HR0_0.out HB.out) | (with_reducible refine Kd.C_alloc ?_ _) | (with_reducible refine Kd.C_drewN ?_ _) | (with_reducible refine Kd.C_drew ?_))); (case side2 => exact HC0_0.out); rintro e w29 ⟨v182, rfl, zQ, hb⟩; refine ⟨_, rfl, ?_⟩; have n0_ := Aside0.mk (Kd.R_lower zQ (zm (by exact bl HB.out))); have n1_ := Aside0.mk (zi (g := zE) (o := .cells #[.slice A0_0 l0_0.length c0_0] 25 (0, 0)) (BL zB.out) hb); have n2_ := Aside0.mk (zi (g := zD) (o := .cells #[.int .i64 a1_0, .slice A1_1 l1_1.length c1_1] 55 (0, 0)) (BL zA.out) hb); have n3_ := Aside0.mk (zi (g := zF) (o := .cells #[.slice none 0 0] 25 (0, 0)) (BL zC.out) hb); have n4_ := Aside0.mk (zn (by exact bl HB.out) hb); clear zB; clear zA; clear zC; clear HB; have zdb := n0_; have zB := n1_; have zA := n2_; have zC := n3_; have HB := n4_; clear n0_ n1_ n2_ n3_ n4_; (try clear hb); (try clear hb2); (try clear hk); (try clear hi); (try clear zQ)))
    go_loopg [5, 6] kj2 (fun kq v5 v6 w' => ∃ (x5_2 : List (S77)) (x6_2 : Int), v6 = .int .i64 x6_2 ∧ Aside0 (spec_ApplyTxn.l0 kq x5_2 x6_2 a1_0 l1_1 = some r) ∧ Aside0 (kq ≤ kj2) ∧ Aside0 (Kd.R k77 77 w' w.heap.size (fun _ => True) v5 x5_2) ∧ Aside0 (w'.heap[zE]? = some (.cells #[(.slice A0_0 l0_0.length c0_0)] 25 (0, 0))) ∧ Aside0 (w'.heap[zD]? = some (.cells #[.int .i64 a1_0, (.slice A1_1 l1_1.length c1_1)] 55 (0, 0))) ∧ Aside0 (w'.heap[zF]? = some (.cells #[(.slice none 0 0)] 25 (0, 0))) ∧ Aside0 (Below w.heap.size w w'))
    case atStart => exact ⟨(t181), (0), (by first | rfl | (simp [*]; done)), H', ⟨Nat.le_refl _⟩, ⟨RL zdb.out⟩, ⟨BL zB.out⟩, ⟨BL zA.out⟩, ⟨BL zC.out⟩, ⟨by repeat (first | (with_reducible first | exact HB.out | apply zh | apply zf | apply zg | refine zd ?_ zN.out | refine zd ?_ zO.out | refine zd ?_ zP.out) | exact HB.out)⟩⟩
    case round =>
     clear H'
     try clear c1
     try clear c2
     try clear p2
     try clear c5
     try clear c8
     try clear c10
     try clear c11
     try clear c14
     try clear c17
     try clear c18
     try clear c21
     try clear c22
     try clear c23
     try clear c26
     try clear c27
     try clear zR
     try clear zT
     try clear zU
     try clear zX
     try clear zZ
     try clear zbb
     try clear zS
     try clear zV
     try clear zW
     try clear zY
     try clear zab
     try clear zcb
     try clear p2
     obtain ⟨x5_2, x6_2, rfl, HA, HK2, zG, zB, zA, zC, HB⟩ := hrel
     cases gk with
     | zero => exact absurd HA.out (by simp [spec_ApplyTxn.l0])
     | succ k2 =>
      have H := HA.out
      clear HA
      simp only [spec_ApplyTxn.l0] at H
      by_cases c30 : x6_2 < (l1_1.length : Int)
      ·rw [if_pos c30] at H
       have c30b0 : decide (x6_2 < (l1_1.length : Int)) = true := decide_eq_true c30
       clear c30
       by_cases c31 : 0 ≤ x6_2
       ·rw [if_pos c31] at H
        have c31b0 : decide (0 ≤ x6_2) = true := decide_eq_true c31
        clear c31
        obtain ⟨bq32, hbq32⟩ : ∃ b_ : Bool, b_ = ((rd_T108 l1_1 x6_2).f0) := ⟨_, rfl⟩
        replace H : (if bq32 = true then ((spec_l3Without.f k2 x5_2 ((rd_T108 l1_1 x6_2).f1.f0)).bind fun t186 => (spec_ApplyTxn.l0 k2 t186 (wrap64 (x6_2 + 1)) a1_0 l1_1)) else ((spec_l3With.f k2 x5_2 ((rd_T108 l1_1 x6_2).f1.f0) ((rd_T108 l1_1 x6_2).f1.f1) ((rd_T108 l1_1 x6_2).f1.f2) ((rd_T108 l1_1 x6_2).f1.f3) ((rd_T108 l1_1 x6_2).f1.f4) ((rd_T108 l1_1 x6_2).f1.f5) ((rd_T108 l1_1 x6_2).f1.f6)).bind fun t190 => (spec_ApplyTxn.l0 k2 t190 (wrap64 (x6_2 + 1)) a1_0 l1_1))) = some r := by rw [← hbq32] at H; exact H
        have Nbq32 := Aside0.mk hbq32
        clear hbq32
        by_cases c33 : bq32 = true
        ·subst c33
         rw [if_pos rfl] at H
         replace H := Option.bind_eq_some_iff.mp H
         obtain ⟨t186, A340, H⟩ := H
         try dsimp only at H
         have A34 := Aside0.mk A340
         clear A340
         have H' := Aside0.mk H
         clear H
         have zMb := zI.out
         have zNb := zH.out
         have zOb := zL.out
         have zPb := zM.out
         have zgb : wr.cell? ⟨zD, 0, none⟩ = some (.int .i64 a1_0) := (zc zA.out 0).trans rfl
         have zhb : wr.cell? ⟨zD, 1, none⟩ = some (.slice A1_1 l1_1.length c1_1) := (zc zA.out 1).trans rfl
         have zib := ze zA.out 0
         have zjb := ze zA.out 1
         have p184 : 0 ≤ (x6_2 : Int) := of_decide_eq_true (by with_reducible assumption)
         have q184 : x6_2 < (l1_1.length : Int) := of_decide_eq_true (by with_reducible assumption)
         obtain ⟨ad184, e184, hx184_0, hx184_1, hx184_2, hx184_3, hx184_4, hx184_5, hx184_6, hx184_7⟩ := at_T108 (Kd.C_below HR1_1.out HB.out) x6_2 p184 q184
         (try rw [← Nbq32.out] at hx184_0)
         cases e184
         replace p184 := eq_true p184
         replace q184 := eq_true q184
         have p185 : 0 ≤ (x6_2 : Int) := of_decide_eq_true (by with_reducible assumption)
         have q185 : x6_2 < (l1_1.length : Int) := of_decide_eq_true (by with_reducible assumption)
         obtain ⟨ad185, e185, hx185_0, hx185_1, hx185_2, hx185_3, hx185_4, hx185_5, hx185_6, hx185_7⟩ := at_T108 HR1_1.out x6_2 p185 q185
         (try rw [← Nbq32.out] at hx185_0)
         obtain rfl : ad184 = ad185 := (by injection e185)
         replace hx185_0 := zb HB.out hx185_0
         replace hx185_1 := zb HB.out hx185_1
         replace hx185_2 := zb HB.out hx185_2
         replace hx185_3 := zb HB.out hx185_3
         replace hx185_4 := zb HB.out hx185_4
         replace hx185_5 := zb HB.out hx185_5
         replace hx185_6 := zb HB.out hx185_6
         replace hx185_7 := zb HB.out hx185_7
         replace p185 := eq_true p185
         replace q185 := eq_true q185
         obtain ⟨Ao38, co38, eo38⟩ := Kd.R_slice zG.out
         subst eo38
         go_wp2_with (first | ((with_reducible refine zr (f := 59) rfl ?_); refine zz (some 40) rfl rfl Tryd.func59 (by kernel_rfl) rfl #[.slice Ao38 x5_2.length co38, .string ((rd_T108 l1_1 x6_2).f1.f0)] rfl (by (try simp only [List.map_toArray, List.map_cons, List.map_nil]); first | done | rfl) ?_; (with_reducible refine (spec_l3Without.calls k2 _ _ x5_2 ((rd_T108 l1_1 x6_2).f1.f0) t186 _ ?side1 ?side2 A34.out).mono ?_); (case side1 => repeat (first | exact (Kd.R_reads' zG.out).2.2 | (with_reducible refine Kd.C_alloc ?_ _) | (with_reducible refine Kd.C_drewN ?_ _) | (with_reducible refine Kd.C_drew ?_))); (case side2 => exact (Kd.R_reads' zG.out).2.1); rintro e w39 ⟨v187, rfl, zQ, hb⟩; refine ⟨_, rfl, ?_⟩; have n0_ := Aside0.mk (Kd.R_elder' (RL zG.out) (Kd.R_base zQ) hb); have n1_ := Aside0.mk (Kd.R_lower (Kd.R_new' zQ (Kd.R_lt (RL zG.out))) (zm (by exact bl HB.out))); have n2_ := Aside0.mk (zi (g := zE) (o := .cells #[.slice A0_0 l0_0.length c0_0] 25 (0, 0)) (BL zB.out) hb); have n3_ := Aside0.mk (zi (g := zD) (o := .cells #[.int .i64 a1_0, .slice (some ad184) l1_1.length c1_1] 55 (0, 0)) (BL zA.out) hb); have n4_ := Aside0.mk (zi (g := zF) (o := .cells #[.slice none 0 0] 25 (0, 0)) (BL zC.out) hb); have n5_ := Aside0.mk (zn (by exact bl HB.out) hb); clear zG; clear zB; clear zA; clear zC; clear HB; have zG := n0_; have zeb := n1_; have zB := n2_; have zA := n3_; have zC := n4_; have HB := n5_; clear n0_ n1_ n2_ n3_ n4_ n5_; (try clear hb); (try clear hb2); (try clear hk); (try clear hi); (try clear zQ)))
         go_roundg k2
         case measure => have := HJ2.out; have := HK2.out; omega
         case rel => exact ⟨(t186), (wrap64 (x6_2 + 1)), (by first | rfl | (simp [*]; done)), H', ⟨by have := HJ2.out; have := HK2.out; omega⟩, ⟨RL (Kd.R_mono zeb.out (fun _ hk => trivial))⟩, ⟨BL zB.out⟩, ⟨BL zA.out⟩, ⟨BL zC.out⟩, ⟨by repeat (first | (with_reducible first | exact HB.out | apply zh | apply zf | apply zg | refine zd ?_ zN.out | refine zd ?_ zO.out | refine zd ?_ zP.out) | exact HB.out)⟩⟩
        ·replace c33 := Bool.eq_false_iff.mpr c33
         subst c33
         rw [if_neg (show ¬ (false = true) by decide)] at H
         replace H := Option.bind_eq_some_iff.mp H
         obtain ⟨t190, A400, H⟩ := H
         try dsimp only at H
         have A40 := Aside0.mk A400
         clear A400
         have H' := Aside0.mk H
         clear H
         have zQb := zI.out
         have zRb := zH.out
         have zSb := zL.out
         have zTb := zM.out
         have zkb : wr.cell? ⟨zD, 0, none⟩ = some (.int .i64 a1_0) := (zc zA.out 0).trans rfl
         have zlb : wr.cell? ⟨zD, 1, none⟩ = some (.slice A1_1 l1_1.length c1_1) := (zc zA.out 1).trans rfl
         have zmb := ze zA.out 0
         have znb := ze zA.out 1
         have p184 : 0 ≤ (x6_2 : Int) := of_decide_eq_true (by with_reducible assumption)
         have q184 : x6_2 < (l1_1.length : Int) := of_decide_eq_true (by with_reducible assumption)
         obtain ⟨ad184, e184, hx184_0, hx184_1, hx184_2, hx184_3, hx184_4, hx184_5, hx184_6, hx184_7⟩ := at_T108 (Kd.C_below HR1_1.out HB.out) x6_2 p184 q184
         (try rw [← Nbq32.out] at hx184_0)
         cases e184
         replace p184 := eq_true p184
         replace q184 := eq_true q184
         have p189 : 0 ≤ (x6_2 : Int) := of_decide_eq_true (by with_reducible assumption)
         have q189 : x6_2 < (l1_1.length : Int) := of_decide_eq_true (by with_reducible assumption)
         obtain ⟨ad189, e189, hx189_0, hx189_1, hx189_2, hx189_3, hx189_4, hx189_5, hx189_6, hx189_7⟩ := at_T108 HR1_1.out x6_2 p189 q189
         (try rw [← Nbq32.out] at hx189_0)
         obtain rfl : ad184 = ad189 := (by injection e189)
         replace hx189_0 := zb HB.out hx189_0
         replace hx189_1 := zb HB.out hx189_1
         replace hx189_2 := zb HB.out hx189_2
         replace hx189_3 := zb HB.out hx189_3
         replace hx189_4 := zb HB.out hx189_4
         replace hx189_5 := zb HB.out hx189_5
         replace hx189_6 := zb HB.out hx189_6
         replace hx189_7 := zb HB.out hx189_7
         replace p189 := eq_true p189
         replace q189 := eq_true q189
         obtain ⟨Ao44, co44, eo44⟩ := Kd.R_slice zG.out
         subst eo44
         go_wp2_with (first | ((with_reducible refine zr (f := 60) rfl ?_); refine zz (some 48) rfl rfl Tryd.func60 (by kernel_rfl) rfl #[.slice Ao44 x5_2.length co44, .agg #[.string ((rd_T108 l1_1 x6_2).f1.f0), .string ((rd_T108 l1_1 x6_2).f1.f1), .int .i64 ((rd_T108 l1_1 x6_2).f1.f2), .int .i64 ((rd_T108 l1_1 x6_2).f1.f3), .int .i64 ((rd_T108 l1_1 x6_2).f1.f4), .int .i64 ((rd_T108 l1_1 x6_2).f1.f5), .int .i64 ((rd_T108 l1_1 x6_2).f1.f6)]] rfl (by (try simp only [List.map_toArray, List.map_cons, List.map_nil]); first | done | rfl) ?_; (with_reducible refine (spec_l3With.calls k2 _ _ x5_2 ((rd_T108 l1_1 x6_2).f1.f0) ((rd_T108 l1_1 x6_2).f1.f1) ((rd_T108 l1_1 x6_2).f1.f2) ((rd_T108 l1_1 x6_2).f1.f3) ((rd_T108 l1_1 x6_2).f1.f4) ((rd_T108 l1_1 x6_2).f1.f5) ((rd_T108 l1_1 x6_2).f1.f6) t190 _ ?side1 ?side2 A40.out).mono ?_); (case side1 => repeat (first | exact (Kd.R_reads' zG.out).2.2 | (with_reducible refine Kd.C_alloc ?_ _) | (with_reducible refine Kd.C_drewN ?_ _) | (with_reducible refine Kd.C_drew ?_))); (case side2 => exact (Kd.R_reads' zG.out).2.1); rintro e w45 ⟨v191, rfl, zQ, hb⟩; refine ⟨_, rfl, ?_⟩; have n0_ := Aside0.mk (Kd.R_elder' (RL zG.out) (Kd.R_base zQ) hb); have n1_ := Aside0.mk (Kd.R_lower (Kd.R_new' zQ (Kd.R_lt (RL zG.out))) (zm (by exact bl HB.out))); have n2_ := Aside0.mk (zi (g := zE) (o := .cells #[.slice A0_0 l0_0.length c0_0] 25 (0, 0)) (BL zB.out) hb); have n3_ := Aside0.mk (zi (g := zD) (o := .cells #[.int .i64 a1_0, .slice (some ad184) l1_1.length c1_1] 55 (0, 0)) (BL zA.out) hb); have n4_ := Aside0.mk (zi (g := zF) (o := .cells #[.slice none 0 0] 25 (0, 0)) (BL zC.out) hb); have n5_ := Aside0.mk (zn (by exact bl HB.out) hb); clear zG; clear zB; clear zA; clear zC; clear HB; have zG := n0_; have zfb := n1_; have zB := n2_; have zA := n3_; have zC := n4_; have HB := n5_; clear n0_ n1_ n2_ n3_ n4_ n5_; (try clear hb); (try clear hb2); (try clear hk); (try clear hi); (try clear zQ)))
         go_roundg k2
         case measure => have := HJ2.out; have := HK2.out; omega
         case rel => exact ⟨(t190), (wrap64 (x6_2 + 1)), (by first | rfl | (simp [*]; done)), H', ⟨by have := HJ2.out; have := HK2.out; omega⟩, ⟨RL (Kd.R_mono zfb.out (fun _ hk => trivial))⟩, ⟨BL zB.out⟩, ⟨BL zA.out⟩, ⟨BL zC.out⟩, ⟨by repeat (first | (with_reducible first | exact HB.out | apply zh | apply zf | apply zg | refine zd ?_ zN.out | refine zd ?_ zO.out | refine zd ?_ zP.out) | exact HB.out)⟩⟩
       ·rw [if_neg c31] at H
        exact absurd H (by simp)
      ·rw [if_neg c30] at H
       have c30b0 : decide (x6_2 < (l1_1.length : Int)) = false := decide_eq_false c30
       clear c30
       obtain rfl := Option.some.inj H
       have zUb := zI.out
       have zVb := zH.out
       have zWb := zL.out
       have zXb := zM.out
       have zob : wr.cell? ⟨zD, 0, none⟩ = some (.int .i64 a1_0) := (zc zA.out 0).trans rfl
       have zpb : wr.cell? ⟨zD, 1, none⟩ = some (.slice A1_1 l1_1.length c1_1) := (zc zA.out 1).trans rfl
       have zqb := ze zA.out 0
       have zrb := ze zA.out 1
       obtain ⟨Ao49, co49, eo49⟩ := Kd.R_slice zG.out
       subst eo49
       have zYb := zK.out
       have zZb := zJ.out
       have zsb : wr.cell? ⟨zF, 0, none⟩ = some (.slice none 0 0) := (zc zC.out 0).trans rfl
       have ztb := ze zC.out 0
       go_wp2
       refine bodyPost_ret (results_cell_row rfl _ _ zF 25 #[.slice Ao49 x5_2.length co49] (0, 0) _ rfl (by (with_reducible repeat (first | refine zk ?_ _ | refine zl ?_ | refine zj ?_ _)); refine zv (cs := #[.slice none 0 0]) ?_ 0 _ rfl; (with_reducible repeat (first | refine zk ?_ _ | refine zl ?_ | refine zj ?_ _)); exact zC.out) Tryd.underlying25 rfl (by kernel_rfl)) rfl ?_
       exact ⟨_, by first | rfl | (simp [*] <;> rfl), RL (Kd.R_mono (Kd.R_far (p := ⟨zF, 0, none⟩) (Kd.R_types zG.out zC.out (by decide)) (fun _ hk => hk.2) (.slice Ao49 x5_2.length co49)) (fun _ hk => trivial)), by repeat (first | (with_reducible first | exact HB.out | apply zh | apply zf | apply zg | refine zd ?_ zN.out | refine zd ?_ zO.out | refine zd ?_ zP.out) | exact HB.out)⟩

def laws_toNode.f (a0_0 : ByteArray) (a0_1 : ByteArray) (a0_2 : Int) (a0_3 : Int) (a0_4 : Int) (a0_5 : Int) (a0_6 : Int) : Option (ByteArray × ByteArray × Int × Int × Int × Int × Int) := some (a0_0, a0_1, a0_2, a0_3, a0_4, a0_5, a0_6)
set_option maxHeartbeats 8000000 in
set_option maxRecDepth 100000 in
theorem laws_toNode.calls (a0_0 : ByteArray) (a0_1 : ByteArray) (a0_2 : Int) (a0_3 : Int) (a0_4 : Int) (a0_5 : Int) (a0_6 : Int) (r1 : ByteArray) (r2 : ByteArray) (r3 : Int) (r4 : Int) (r5 : Int) (r6 : Int) (r7 : Int) (w : World) (h : laws_toNode.f a0_0 a0_1 a0_2 a0_3 a0_4 a0_5 a0_6 = some (r1, r2, r3, r4, r5, r6, r7)) :
  Calls Tryd.prog 104 #[.agg #[.string a0_0, .string a0_1, .int .i64 a0_2, .int .i64 a0_3, .int .i64 a0_4, .int .i64 a0_5, .int .i64 a0_6]] w fun e w' => e = .returned (.agg #[.string r1, .string r2, .int .i64 r3, .int .i64 r4, .int .i64 r5, .int .i64 r6, .int .i64 r7]) ∧ Below w.heap.size w w' := by
 have hu171 := Tryd.underlying171
 have hu77 := Tryd.underlying77
 have HB := Aside0.mk (Below.refl w.heap.size w)
 have H : (some (a0_0, a0_1, a0_2, a0_3, a0_4, a0_5, a0_6)) = some (r1, r2, r3, r4, r5, r6, r7) := h
 clear h
 simp only [Option.some.injEq, Prod.mk.injEq] at H
 obtain ⟨rfl, rfl, rfl, rfl, rfl, rfl, rfl⟩ := H
 go_enter Tryd.func104, Tryd.ntmps104
 go_wp2_with (first | ((with_reducible refine zu (N := 1) rfl ?_); refine zy ?hg (N := 1) ?hd (cs := #[.string a0_0, .string a0_1, .int .i64 a0_2, .int .i64 a0_3, .int .i64 a0_4, .int .i64 a0_5, .int .i64 a0_6]) (t := 171) ?hr ?_; (case hd => rfl); (case hg => rfl); (case hr => first | (go_simp; done) | (go_simp; rfl)); intro zC hg w2 hbox hb; have n0_ := Aside0.mk (zn (by exact bl HB.out) hb); have n1_ := Aside0.mk (hbox); have n2_ := Aside0.mk ((by rw [hg]; exact (zm (by exact bl HB.out)) : w.heap.size ≤ zC)); have n3_ := Aside0.mk ((by rw [hg]; exact (zm (by exact bl HB.out)) : w.heap.size ≤ zC)); clear HB; have HB := n0_; have zA := n1_; have GW193 := n2_; have zM := n3_; clear n0_ n1_ n2_ n3_; clear hb hbox hg) | ((with_reducible refine zu (N := 2) rfl ?_); refine zy ?hg (N := 2) ?hd (cs := #[.string (⟨#[]⟩ : ByteArray), .string (⟨#[]⟩ : ByteArray), .int .i64 0, .int .i64 0, .int .i64 0, .int .i64 0, .int .i64 0]) (t := 77) ?hr ?_; (case hd => rfl); (case hg => rfl); (case hr => first | (go_simp; done) | (go_simp; rfl)); intro zD hg w3 hbox hb; have n0_ := Aside0.mk (zi (g := zC) (o := .cells #[.string a0_0, .string a0_1, .int .i64 a0_2, .int .i64 a0_3, .int .i64 a0_4, .int .i64 a0_5, .int .i64 a0_6] 171 (0, 0)) (BL zA.out) hb); have n1_ := Aside0.mk (zn (by exact bl HB.out) hb); have n2_ := Aside0.mk (hbox); have n3_ := Aside0.mk ((by rw [hg]; exact (zm (by exact bl HB.out)) : w.heap.size ≤ zD)); have n4_ := Aside0.mk ((by rw [hg]; exact (zm (by exact bl HB.out)) : w.heap.size ≤ zD)); have n5_ := Aside0.mk ((by rw [hg]; exact Nat.ne_of_lt (zt (g := zC) (o := .cells #[.string a0_0, .string a0_1, .int .i64 a0_2, .int .i64 a0_3, .int .i64 a0_4, .int .i64 a0_5, .int .i64 a0_6] 171 (0, 0)) (BL zA.out)) : zC ≠ zD)); have n6_ := Aside0.mk ((by rw [hg]; exact Nat.ne_of_gt (zt (g := zC) (o := .cells #[.string a0_0, .string a0_1, .int .i64 a0_2, .int .i64 a0_3, .int .i64 a0_4, .int .i64 a0_5, .int .i64 a0_6] 171 (0, 0)) (BL zA.out)) : zD ≠ zC)); clear zA; clear HB; have zA := n0_; have HB := n1_; have zB := n2_; have GW194 := n3_; have zN := n4_; have zH := n5_; have zI := n6_; clear n0_ n1_ n2_ n3_ n4_ n5_ n6_; clear hb hbox hg) | ((with_reducible refine zu (N := 3) rfl ?_); refine zy ?hg (N := 3) ?hd (cs := #[.string (⟨#[]⟩ : ByteArray), .string (⟨#[]⟩ : ByteArray), .int .i64 0, .int .i64 0, .int .i64 0, .int .i64 0, .int .i64 0]) (t := 77) ?hr ?_; (case hd => rfl); (case hg => rfl); (case hr => first | (go_simp; done) | (go_simp; rfl)); intro zG hg w4 hbox hb; have n0_ := Aside0.mk (zi (g := zC) (o := .cells #[.string a0_0, .string a0_1, .int .i64 a0_2, .int .i64 a0_3, .int .i64 a0_4, .int .i64 a0_5, .int .i64 a0_6] 171 (0, 0)) (BL zA.out) hb); have n1_ := Aside0.mk (zi (g := zD) (o := .cells #[.string (⟨#[]⟩ : ByteArray), .string (⟨#[]⟩ : ByteArray), .int .i64 0, .int .i64 0, .int .i64 0, .int .i64 0, .int .i64 0] 77 (0, 0)) (BL zB.out) hb); have n2_ := Aside0.mk (zn (by exact bl HB.out) hb); have n3_ := Aside0.mk (hbox); have n4_ := Aside0.mk ((by rw [hg]; exact (zm (by exact bl HB.out)) : w.heap.size ≤ zG)); have n5_ := Aside0.mk ((by rw [hg]; exact (zm (by exact bl HB.out)) : w.heap.size ≤ zG)); have n6_ := Aside0.mk ((by rw [hg]; exact Nat.ne_of_lt (zt (g := zC) (o := .cells #[.string a0_0, .string a0_1, .int .i64 a0_2, .int .i64 a0_3, .int .i64 a0_4, .int .i64 a0_5, .int .i64 a0_6] 171 (0, 0)) (BL zA.out)) : zC ≠ zG)); have n7_ := Aside0.mk ((by rw [hg]; exact Nat.ne_of_gt (zt (g := zC) (o := .cells #[.string a0_0, .string a0_1, .int .i64 a0_2, .int .i64 a0_3, .int .i64 a0_4, .int .i64 a0_5, .int .i64 a0_6] 171 (0, 0)) (BL zA.out)) : zG ≠ zC)); have n8_ := Aside0.mk ((by rw [hg]; exact Nat.ne_of_lt (zt (g := zD) (o := .cells #[.string (⟨#[]⟩ : ByteArray), .string (⟨#[]⟩ : ByteArray), .int .i64 0, .int .i64 0, .int .i64 0, .int .i64 0, .int .i64 0] 77 (0, 0)) (BL zB.out)) : zD ≠ zG)); have n9_ := Aside0.mk ((by rw [hg]; exact Nat.ne_of_gt (zt (g := zD) (o := .cells #[.string (⟨#[]⟩ : ByteArray), .string (⟨#[]⟩ : ByteArray), .int .i64 0, .int .i64 0, .int .i64 0, .int .i64 0, .int .i64 0] 77 (0, 0)) (BL zB.out)) : zG ≠ zD)); clear zA; clear zB; clear HB; have zA := n0_; have zB := n1_; have HB := n2_; have zF := n3_; have GW195 := n4_; have zO := n5_; have zJ := n6_; have zK := n7_; have zE := n8_; have zL := n9_; clear n0_ n1_ n2_ n3_ n4_ n5_ n6_ n7_ n8_ n9_; clear hb hbox hg; have zFb := zH.out; have zGb := zI.out; have zHb := zJ.out; have zIb := zK.out; have zdb : w4.cell? ⟨zC, 0, none⟩ = some (.string a0_0) := (zc zA.out 0).trans rfl; have zeb : w4.cell? ⟨zC, 1, none⟩ = some (.string a0_1) := (zc zA.out 1).trans rfl; have zfb : w4.cell? ⟨zC, 2, none⟩ = some (.int .i64 a0_2) := (zc zA.out 2).trans rfl; have zgb : w4.cell? ⟨zC, 3, none⟩ = some (.int .i64 a0_3) := (zc zA.out 3).trans rfl; have zhb : w4.cell? ⟨zC, 4, none⟩ = some (.int .i64 a0_4) := (zc zA.out 4).trans rfl; have zib : w4.cell? ⟨zC, 5, none⟩ = some (.int .i64 a0_5) := (zc zA.out 5).trans rfl; have zjb : w4.cell? ⟨zC, 6, none⟩ = some (.int .i64 a0_6) := (zc zA.out 6).trans rfl; have zkb := ze zA.out 0; have zlb := ze zA.out 1; have zmb := ze zA.out 2; have znb := ze zA.out 3; have zob := ze zA.out 4; have zpb := ze zA.out 5; have zqb := ze zA.out 6; have zJb := zL.out; have zKb := zE.out; have zrb : w4.cell? ⟨zG, 0, none⟩ = some (.string (⟨#[]⟩ : ByteArray)) := (zc zF.out 0).trans rfl; have zsb : w4.cell? ⟨zG, 1, none⟩ = some (.string (⟨#[]⟩ : ByteArray)) := (zc zF.out 1).trans rfl; have ztb : w4.cell? ⟨zG, 2, none⟩ = some (.int .i64 0) := (zc zF.out 2).trans rfl; have zub : w4.cell? ⟨zG, 3, none⟩ = some (.int .i64 0) := (zc zF.out 3).trans rfl; have zvb : w4.cell? ⟨zG, 4, none⟩ = some (.int .i64 0) := (zc zF.out 4).trans rfl; have zwb : w4.cell? ⟨zG, 5, none⟩ = some (.int .i64 0) := (zc zF.out 5).trans rfl; have zxb : w4.cell? ⟨zG, 6, none⟩ = some (.int .i64 0) := (zc zF.out 6).trans rfl; have zyb := ze zF.out 0; have zzb := ze zF.out 1; have zAb := ze zF.out 2; have zBb := ze zF.out 3; have zCb := ze zF.out 4; have zDb := ze zF.out 5; have zEb := ze zF.out 6; have zP : w4.cell? ⟨zD, 0, none⟩ = some (.string (⟨#[]⟩ : ByteArray)) := (zc zB.out 0).trans rfl; have zQ : w4.cell? ⟨zD, 1, none⟩ = some (.string (⟨#[]⟩ : ByteArray)) := (zc zB.out 1).trans rfl; have zR : w4.cell? ⟨zD, 2, none⟩ = some (.int .i64 0) := (zc zB.out 2).trans rfl; have zS : w4.cell? ⟨zD, 3, none⟩ = some (.int .i64 0) := (zc zB.out 3).trans rfl; have zT : w4.cell? ⟨zD, 4, none⟩ = some (.int .i64 0) := (zc zB.out 4).trans rfl; have zU : w4.cell? ⟨zD, 5, none⟩ = some (.int .i64 0) := (zc zB.out 5).trans rfl; have zV : w4.cell? ⟨zD, 6, none⟩ = some (.int .i64 0) := (zc zB.out 6).trans rfl; have zW := ze zB.out 0; have zX := ze zB.out 1; have zY := ze zB.out 2; have zZ := ze zB.out 3; have zab := ze zB.out 4; have zbb := ze zB.out 5; have zcb := ze zB.out 6))
 refine bodyPost_ret (results_cell_row rfl _ _ zD 77 #[.string a0_0, .string a0_1, .int .i64 a0_2, .int .i64 a0_3, .int .i64 a0_4, .int .i64 a0_5, .int .i64 a0_6] (0, 0) _ rfl (by (with_reducible repeat (first | refine zk ?_ _ | refine zl ?_ | refine zj ?_ _)); refine zv (cs := #[.string a0_0, .string a0_1, .int .i64 a0_2, .int .i64 a0_3, .int .i64 a0_4, .int .i64 a0_5, .int .i64 0]) ?_ 6 _ rfl; (with_reducible repeat (first | refine zk ?_ _ | refine zl ?_ | refine zj ?_ _)); refine zv (cs := #[.string a0_0, .string a0_1, .int .i64 a0_2, .int .i64 a0_3, .int .i64 a0_4, .int .i64 0, .int .i64 0]) ?_ 5 _ rfl; (with_reducible repeat (first | refine zk ?_ _ | refine zl ?_ | refine zj ?_ _)); refine zv (cs := #[.string a0_0, .string a0_1, .int .i64 a0_2, .int .i64 a0_3, .int .i64 0, .int .i64 0, .int .i64 0]) ?_ 4 _ rfl; (with_reducible repeat (first | refine zk ?_ _ | refine zl ?_ | refine zj ?_ _)); refine zv (cs := #[.string a0_0, .string a0_1, .int .i64 a0_2, .int .i64 0, .int .i64 0, .int .i64 0, .int .i64 0]) ?_ 3 _ rfl; (with_reducible repeat (first | refine zk ?_ _ | refine zl ?_ | refine zj ?_ _)); refine zv (cs := #[.string a0_0, .string a0_1, .int .i64 0, .int .i64 0, .int .i64 0, .int .i64 0, .int .i64 0]) ?_ 2 _ rfl; (with_reducible repeat (first | refine zk ?_ _ | refine zl ?_ | refine zj ?_ _)); refine zv (cs := #[.string a0_0, .string (⟨#[]⟩ : ByteArray), .int .i64 0, .int .i64 0, .int .i64 0, .int .i64 0, .int .i64 0]) ?_ 1 _ rfl; (with_reducible repeat (first | refine zk ?_ _ | refine zl ?_ | refine zj ?_ _)); refine zv (cs := #[.string (⟨#[]⟩ : ByteArray), .string (⟨#[]⟩ : ByteArray), .int .i64 0, .int .i64 0, .int .i64 0, .int .i64 0, .int .i64 0]) ?_ 0 _ rfl; (with_reducible repeat (first | refine zk ?_ _ | refine zl ?_ | refine zj ?_ _)); refine zw ?_ zE.out _; (with_reducible repeat (first | refine zk ?_ _ | refine zl ?_ | refine zj ?_ _)); refine zw ?_ zE.out _; (with_reducible repeat (first | refine zk ?_ _ | refine zl ?_ | refine zj ?_ _)); refine zw ?_ zE.out _; (with_reducible repeat (first | refine zk ?_ _ | refine zl ?_ | refine zj ?_ _)); refine zw ?_ zE.out _; (with_reducible repeat (first | refine zk ?_ _ | refine zl ?_ | refine zj ?_ _)); refine zw ?_ zE.out _; (with_reducible repeat (first | refine zk ?_ _ | refine zl ?_ | refine zj ?_ _)); refine zw ?_ zE.out _; (with_reducible repeat (first | refine zk ?_ _ | refine zl ?_ | refine zj ?_ _)); refine zw ?_ zE.out _; (with_reducible repeat (first | refine zk ?_ _ | refine zl ?_ | refine zj ?_ _)); exact zB.out) Tryd.underlying77 rfl (by kernel_rfl)) rfl ?_
 exact ⟨by first | rfl | (simp [*] <;> rfl), by repeat (first | (with_reducible first | exact HB.out | apply zh | apply zf | apply zg | refine zd ?_ zM.out | refine zd ?_ zN.out | refine zd ?_ zO.out) | exact HB.out)⟩

def laws_toNodeS.l0 : Nat → List (S171) → List (S77) → Int → Option ((List (S77)))
 | 0, _, _, _ => none
 | k + 1, x0, x3, x4 => if x4 < (x0.length : Int) then (if 0 ≤ x4 then ((laws_toNode.f ((rd_T171 x0 x4).f0) ((rd_T171 x0 x4).f1) ((rd_T171 x0 x4).f2) ((rd_T171 x0 x4).f3) ((rd_T171 x0 x4).f4) ((rd_T171 x0 x4).f5) ((rd_T171 x0 x4).f6)).bind fun bt200 => (if x4 < (x3.length : Int) then (laws_toNodeS.l0 k x0 (x3.set (x4 : Int).toNat (⟨bt200.1, bt200.2.1, bt200.2.2.1, bt200.2.2.2.1, bt200.2.2.2.2.1, bt200.2.2.2.2.2.1, bt200.2.2.2.2.2.2⟩ : S77)) (wrap64 (x4 + 1))) else (none))) else (none)) else (some x3)
def laws_toNodeS.f (k : Nat) (l0 : List (S171)) : Option ((List (S77))) := if 0 ≤ (l0.length : Int) then (if ((l0.length : Int) : Int).toNat ≤ 3909374676536 then (laws_toNodeS.l0 k l0 (List.replicate ((l0.length : Int) : Int).toNat z77) 0) else (none)) else (none)
theorem laws_toNodeS.mono_l : ∀ k, (∀ y0 y1 y2, LeO (laws_toNodeS.l0 k y0 y1 y2) (laws_toNodeS.l0 (k + 1) y0 y1 y2))
 | 0 => fun _ _ _ r h => by simp [laws_toNodeS.l0] at h
 | k + 1 => by
  have ih0 := laws_toNodeS.mono_l k
  ·intro y0 y1 y2
   unfold laws_toNodeS.l0
   repeat' first
   | (with_reducible exact ih0 _ _ _)
   | (with_reducible exact LeO.refl _)
   | (with_reducible exact LeO.none _)
   | (with_reducible refine LeO.ite ?_ ?_)
   | (with_reducible refine LeO.bind ?_ (fun _ => ?_))
   | exact ih0 _ _ _
   | exact LeO.none _
   | refine LeO.ite ?_ ?_
   | refine LeO.bind ?_ (fun _ => ?_)
theorem laws_toNodeS.mono : ∀ a0 k, LeO (laws_toNodeS.f k a0) (laws_toNodeS.f (k + 1) a0) := by
 intro a0 k
 have ih0 := laws_toNodeS.mono_l k
 unfold laws_toNodeS.f
 repeat' first
   | (with_reducible exact ih0 _ _ _)
   | (with_reducible exact LeO.refl _)
   | (with_reducible exact LeO.none _)
   | (with_reducible refine LeO.ite ?_ ?_)
   | (with_reducible refine LeO.bind ?_ (fun _ => ?_))
   | exact ih0 _ _ _
   | exact LeO.none _
   | refine LeO.ite ?_ ?_
   | refine LeO.bind ?_ (fun _ => ?_)
set_option maxHeartbeats 8000000 in
set_option maxRecDepth 100000 in
theorem laws_toNodeS.calls (k : Nat) (A0 : Option Addr) (c0 : Nat) (l0 : List (S171)) (r : List (S77)) (w : World) (hr0 : Kd.C k171 w A0 l0.length l0) (hc0 : l0.length ≤ c0) (h : laws_toNodeS.f k l0 = some r) :
  Calls Tryd.prog 61 #[.slice A0 l0.length c0] w fun e w' => ∃ v0_ : Value, e = .returned (v0_) ∧ Kd.R k77 77 w' w.heap.size (fun _ => True) v0_ r ∧ Below w.heap.size w w' := by
 have hu171 := Tryd.underlying171
 have hu77 := Tryd.underlying77
 have HR0 := Aside0.mk hr0
 have HC0 := Aside0.mk hc0
 clear hr0 hc0
 have HB := Aside0.mk (Below.refl w.heap.size w)
 have H : (if 0 ≤ (l0.length : Int) then (if ((l0.length : Int) : Int).toNat ≤ 3909374676536 then (laws_toNodeS.l0 k l0 (List.replicate ((l0.length : Int) : Int).toNat z77) 0) else (none)) else (none)) = some r := h
 clear h
 by_cases c2 : 0 ≤ (l0.length : Int)
 ·rw [if_pos c2] at H
  have c2b0 := eq_true c2
  have c2b1 : decide (0 ≤ (l0.length : Int)) = true := decide_eq_true c2
  clear c2
  by_cases c3 : ((l0.length : Int) : Int).toNat ≤ 3909374676536
  ·rw [if_pos c3] at H
   have c3b0 := eq_true c3
   have c3b1 : decide (((l0.length : Int) : Int).toNat ≤ 3909374676536) = true := decide_eq_true c3
   clear c3
   obtain ⟨y196, hy196⟩ : ∃ y_ : List (S77), y_ = (List.replicate ((l0.length : Int) : Int).toNat z77) := ⟨_, rfl⟩
   replace H : (laws_toNodeS.l0 k l0 y196 0) = some r := by first | (rw [hy196]; with_reducible exact H) | (have H2_ := (Option.bind_some _ _).symm.trans H; rw [hy196]; with_reducible exact H2_) | (have H2_ := (Option.bind_some _ _).symm.trans H; with_reducible exact H2_) | with_reducible exact H | (rw [hy196]; exact H) | exact H
   have Ny196 := Aside0.mk hy196
   clear hy196
   have H' := Aside0.mk H
   clear H
   go_enter Tryd.func61, Tryd.ntmps61
   go_wp2_with (first | ((with_reducible refine zu (N := 7) rfl ?_); refine Kd.R_make k77 _ 77 rfl (N := 7) rfl 23 _ _ rfl (l0.length : Int) rfl rfl Tryd.underlying23 (.agg #[(.string ⟨#[]⟩), (.string ⟨#[]⟩), (.int .i64 0), (.int .i64 0), (.int .i64 0), (.int .i64 0), (.int .i64 0)]) 72 info77 rfl (by decide) (by omega) z77 (ok := fun _ => True) (okp := fun _ => True) (k77_mkM _ _ _ z77 ) (fun _ hk => hk) trivial (of_decide_eq_true (by with_reducible assumption)) (Nat.le_trans (Nat.mul_le_mul_right _ (of_decide_eq_true (by with_reducible assumption) : (l0.length : Int).toNat ≤ 3909374676536)) (by omega)) (Below.refl _ _) (Nat.le_refl _) ?_; intro v197 w4 zB hb hg_ hnew_; clear hg_ hnew_; (first | rw [← Ny196.out] at zB | (simp only [Int.reduceToNat] at zB; rw [← Ny196.out] at zB)); have n0_ := Aside0.mk (Kd.R_lower zB (zm (by exact bl HB.out))); have n1_ := Aside0.mk (zn (by exact bl HB.out) hb); clear HB; have zD := n0_; have HB := n1_; clear n0_ n1_; clear hb zB))
   go_loopg [4] k (fun kq v4 w' => ∃ (x3_1 : List (S77)) (x4_1 : Int), v4 = .int .i64 x4_1 ∧ Aside0 (laws_toNodeS.l0 kq l0 x3_1 x4_1 = some r) ∧ Aside0 (kq ≤ k) ∧ Aside0 (Kd.R k77 77 w' w.heap.size (fun _ => True) v197 x3_1) ∧ Aside0 (Below w.heap.size w w'))
   case atStart => exact ⟨(y196), (0), (by first | rfl | (simp [*]; done)), H', ⟨Nat.le_refl _⟩, ⟨RL zD.out⟩, ⟨by repeat (first | (with_reducible first | exact HB.out | apply zh | apply zf | apply zg) | exact HB.out)⟩⟩
   case round =>
    clear H'
    try clear c2
    try clear c2b0
    try clear c2b1
    try clear p2
    try clear c3
    try clear c3b0
    try clear c3b1
    obtain ⟨x3_1, x4_1, rfl, HA, HK1, zA, HB⟩ := hrel
    cases gk with
    | zero => exact absurd HA.out (by simp [laws_toNodeS.l0])
    | succ k1 =>
     have H := HA.out
     clear HA
     simp only [laws_toNodeS.l0] at H
     by_cases c6 : x4_1 < (l0.length : Int)
     ·rw [if_pos c6] at H
      have c6b0 : decide (x4_1 < (l0.length : Int)) = true := decide_eq_true c6
      clear c6
      by_cases c7 : 0 ≤ x4_1
      ·rw [if_pos c7] at H
       have c7b0 : decide (0 ≤ x4_1) = true := decide_eq_true c7
       clear c7
       replace H := Option.bind_eq_some_iff.mp H
       obtain ⟨⟨t200, t201, t202, t203, t204, t205, t206⟩, A80, H⟩ := H
       try dsimp only at H
       have A8 := Aside0.mk A80
       clear A80
       by_cases c9 : x4_1 < (x3_1.length : Int)
       ·rw [if_pos c9] at H
        have c9b0 : decide (x4_1 < (x3_1.length : Int)) = true := decide_eq_true c9
        clear c9
        obtain ⟨y207, hy207⟩ : ∃ y_ : List (S77), y_ = (x3_1.set (x4_1 : Int).toNat (⟨t200, t201, t202, t203, t204, t205, t206⟩ : S77)) := ⟨_, rfl⟩
        replace H : (laws_toNodeS.l0 k1 l0 y207 (wrap64 (x4_1 + 1))) = some r := by first | (rw [hy207]; with_reducible exact H) | (have H2_ := (Option.bind_some _ _).symm.trans H; rw [hy207]; with_reducible exact H2_) | (have H2_ := (Option.bind_some _ _).symm.trans H; with_reducible exact H2_) | with_reducible exact H | (rw [hy207]; exact H) | exact H
        have Ny207 := Aside0.mk hy207
        clear hy207
        have H' := Aside0.mk H
        clear H
        have p199 : 0 ≤ (x4_1 : Int) := of_decide_eq_true (by with_reducible assumption)
        have q199 : x4_1 < (l0.length : Int) := of_decide_eq_true (by with_reducible assumption)
        obtain ⟨ad199, e199, hx199_0, hx199_1, hx199_2, hx199_3, hx199_4, hx199_5, hx199_6⟩ := at_T171 (Kd.C_below HR0.out HB.out) x4_1 p199 q199
        cases e199
        replace p199 := eq_true p199
        replace q199 := eq_true q199
        go_wp2_with (first | ((with_reducible refine zr (f := 104) rfl ?_); refine zz (some 20) rfl rfl Tryd.func104 (by kernel_rfl) rfl #[.agg #[.string ((rd_T171 l0 x4_1).f0), .string ((rd_T171 l0 x4_1).f1), .int .i64 ((rd_T171 l0 x4_1).f2), .int .i64 ((rd_T171 l0 x4_1).f3), .int .i64 ((rd_T171 l0 x4_1).f4), .int .i64 ((rd_T171 l0 x4_1).f5), .int .i64 ((rd_T171 l0 x4_1).f6)]] rfl (by (try simp only [List.map_toArray, List.map_cons, List.map_nil]); first | done | rfl) ?_; (with_reducible refine (laws_toNode.calls ((rd_T171 l0 x4_1).f0) ((rd_T171 l0 x4_1).f1) ((rd_T171 l0 x4_1).f2) ((rd_T171 l0 x4_1).f3) ((rd_T171 l0 x4_1).f4) ((rd_T171 l0 x4_1).f5) ((rd_T171 l0 x4_1).f6) t200 t201 t202 t203 t204 t205 t206 _ A8.out).mono ?_); rintro e w11 ⟨rfl, hb⟩; refine ⟨_, rfl, ?_⟩; have n0_ := Aside0.mk (Kd.R_below (RL zA.out) hb); have n1_ := Aside0.mk (zn (by exact bl HB.out) hb); clear zA; clear HB; have zA := n0_; have HB := n1_; clear n0_ n1_; (try clear hb); (try clear hb2); (try clear hk); (try clear hi); have p10 : 0 ≤ (x4_1 : Int) := of_decide_eq_true (by with_reducible assumption); have q10 : (x4_1 : Int) < ((x3_1.length : Int) : Int) := of_decide_eq_true (by with_reducible assumption); obtain ⟨go10, co10, eo10, zC, gl10, cl10, HG10⟩ := Kd.R_form zA.out (by omega); (first | cases eo10 | (injection eo10 with ea_ en_ ec_; (first | subst ea_ | (injection ea_ with ea_; subst ea_)); subst ec_; clear en_)); have GB10 := Aside0.mk zC; have GG10 := Aside0.mk HG10; clear zC gl10 HG10; obtain ⟨ce10, hcl10, hM10, hcc10, hfr10⟩ := Kd.R_elem zA.out z77 (x4_1 : Int) p10 q10; obtain rfl := k77_openM hM10; have hx10_0 : w11.cell? ⟨go10, (x4_1 : Int).toNat * 7, none⟩ = some (.string ((rd_T77 x3_1 x4_1).f0)) := hcc10 0 _ rfl; have hx10_1 : w11.cell? ⟨go10, (x4_1 : Int).toNat * 7 + 1, none⟩ = some (.string ((rd_T77 x3_1 x4_1).f1)) := hcc10 1 _ rfl; have hx10_2 : w11.cell? ⟨go10, (x4_1 : Int).toNat * 7 + 2, none⟩ = some (.int .i64 ((rd_T77 x3_1 x4_1).f2)) := hcc10 2 _ rfl; have hx10_3 : w11.cell? ⟨go10, (x4_1 : Int).toNat * 7 + 3, none⟩ = some (.int .i64 ((rd_T77 x3_1 x4_1).f3)) := hcc10 3 _ rfl; have hx10_4 : w11.cell? ⟨go10, (x4_1 : Int).toNat * 7 + 4, none⟩ = some (.int .i64 ((rd_T77 x3_1 x4_1).f4)) := hcc10 4 _ rfl; have hx10_5 : w11.cell? ⟨go10, (x4_1 : Int).toNat * 7 + 5, none⟩ = some (.int .i64 ((rd_T77 x3_1 x4_1).f5)) := hcc10 5 _ rfl; have hx10_6 : w11.cell? ⟨go10, (x4_1 : Int).toNat * 7 + 6, none⟩ = some (.int .i64 ((rd_T77 x3_1 x4_1).f6)) := hcc10 6 _ rfl; have hf10_0 : w11.frozen? ⟨go10, (x4_1 : Int).toNat * 7, none⟩ = false := hfr10 0; have hf10_1 : w11.frozen? ⟨go10, (x4_1 : Int).toNat * 7 + 1, none⟩ = false := hfr10 1; have hf10_2 : w11.frozen? ⟨go10, (x4_1 : Int).toNat * 7 + 2, none⟩ = false := hfr10 2; have hf10_3 : w11.frozen? ⟨go10, (x4_1 : Int).toNat * 7 + 3, none⟩ = false := hfr10 3; have hf10_4 : w11.frozen? ⟨go10, (x4_1 : Int).toNat * 7 + 4, none⟩ = false := hfr10 4; have hf10_5 : w11.frozen? ⟨go10, (x4_1 : Int).toNat * 7 + 5, none⟩ = false := hfr10 5; have hf10_6 : w11.frozen? ⟨go10, (x4_1 : Int).toNat * 7 + 6, none⟩ = false := hfr10 6; clear hcl10 hcc10 hfr10 hM10; replace p10 := eq_true p10; replace q10 := eq_true q10; have HX12 := Aside0.mk (show Kd.R k77 77 w11 w.heap.size (fun _ => True) (.slice (some ⟨go10, 0, none⟩) x3_1.length co10) x3_1 from (RL zA.out)); obtain ⟨ce12, hcl12, hM12, hcc12, hfr12⟩ := Kd.R_elem HX12.out z77 (x4_1 : Int) (of_decide_eq_true (by with_reducible assumption)) (by have h_ : (x4_1 : Int) < ((x3_1.length : Int) : Int) := of_decide_eq_true (by with_reducible assumption); first | exact h_ | (have e_ := (Kd.R_reads' zA.out).1; omega) | simpa using h_); obtain rfl := k77_openM hM12; have HP12 := Kd.R_seg HX12.out (x4_1 : Int) (of_decide_eq_true (by with_reducible assumption)) (by have h_ : (x4_1 : Int) < ((x3_1.length : Int) : Int) := of_decide_eq_true (by with_reducible assumption); first | exact h_ | (have e_ := (Kd.R_reads' zA.out).1; omega) | simpa using h_) (seg := [.string t200, .string t201, .int .i64 t202, .int .i64 t203, .int .i64 t204, .int .i64 t205, .int .i64 t206]) (j := 0) hcl12 hcc12 (show 7 ≤ 7 from by decide) (x' := (⟨t200, t201, t202, t203, t204, t205, t206⟩ : S77)) (k77_mkM _ _ _ (⟨t200, t201, t202, t203, t204, t205, t206⟩ : S77) ) (fun _ hk => hk); have hx12_0 := hcc12 0 _ rfl; (try simp only [show (k77).sz = 7 from rfl, Nat.mul_one, Nat.add_zero] at hx12_0); have hf12_0 := hfr12 0; (try simp only [show (k77).sz = 7 from rfl, Nat.mul_one, Nat.add_zero] at hf12_0); have hx12_1 := hcc12 1 _ rfl; (try simp only [show (k77).sz = 7 from rfl, Nat.mul_one, Nat.add_zero] at hx12_1); have hf12_1 := hfr12 1; (try simp only [show (k77).sz = 7 from rfl, Nat.mul_one, Nat.add_zero] at hf12_1); have hx12_2 := hcc12 2 _ rfl; (try simp only [show (k77).sz = 7 from rfl, Nat.mul_one, Nat.add_zero] at hx12_2); have hf12_2 := hfr12 2; (try simp only [show (k77).sz = 7 from rfl, Nat.mul_one, Nat.add_zero] at hf12_2); have hx12_3 := hcc12 3 _ rfl; (try simp only [show (k77).sz = 7 from rfl, Nat.mul_one, Nat.add_zero] at hx12_3); have hf12_3 := hfr12 3; (try simp only [show (k77).sz = 7 from rfl, Nat.mul_one, Nat.add_zero] at hf12_3); have hx12_4 := hcc12 4 _ rfl; (try simp only [show (k77).sz = 7 from rfl, Nat.mul_one, Nat.add_zero] at hx12_4); have hf12_4 := hfr12 4; (try simp only [show (k77).sz = 7 from rfl, Nat.mul_one, Nat.add_zero] at hf12_4); have hx12_5 := hcc12 5 _ rfl; (try simp only [show (k77).sz = 7 from rfl, Nat.mul_one, Nat.add_zero] at hx12_5); have hf12_5 := hfr12 5; (try simp only [show (k77).sz = 7 from rfl, Nat.mul_one, Nat.add_zero] at hf12_5); have hx12_6 := hcc12 6 _ rfl; (try simp only [show (k77).sz = 7 from rfl, Nat.mul_one, Nat.add_zero] at hx12_6); have hf12_6 := hfr12 6; (try simp only [show (k77).sz = 7 from rfl, Nat.mul_one, Nat.add_zero] at hf12_6); clear hcl12 hcc12 hfr12 hM12) | ((with_reducible refine gate_store (t := 77) (p := 21) rfl ?_); refine store_event (t := 77) (p := 21) (v := ?vo_w13) (w1 := (((((((w11.setCell ⟨go10, (x4_1 : Int).toNat * 7, none⟩ (.string t200)).setCell ⟨go10, (x4_1 : Int).toNat * 7 + 1, none⟩ (.string t201)).setCell ⟨go10, (x4_1 : Int).toNat * 7 + 2, none⟩ (.int .i64 t202)).setCell ⟨go10, (x4_1 : Int).toNat * 7 + 3, none⟩ (.int .i64 t203)).setCell ⟨go10, (x4_1 : Int).toNat * 7 + 4, none⟩ (.int .i64 t204)).setCell ⟨go10, (x4_1 : Int).toNat * 7 + 5, none⟩ (.int .i64 t205)).setCell ⟨go10, (x4_1 : Int).toNat * 7 + 6, none⟩ (.int .i64 t206))) ?hg ?ho ?hn ?hr ?_; (case ho => rfl); (case hg => rfl); (case hn => rfl); (case hr => first | (go_simp; done) | (go_simp; rfl)); intro w13 hw; have hg : w11.grownBy w13 (some go10) := (by rw [hw]; exact HP12.2); have hp_ : Kd.R k77 77 w13 w.heap.size (fun _ => True) (.slice (some ⟨go10, 0, none⟩) x3_1.length co10) y207 := (by rw [hw, Ny207.out]; exact HP12.1); clear HP12; have n0_ := Aside0.mk (hp_); have n1_ := Aside0.mk ((by rw [hw]; exact zd (zd (zd (zd (zd (zd (zd (HB.out) GB10.out) GB10.out) GB10.out) GB10.out) GB10.out) GB10.out) GB10.out : Below w.heap.size w w13)); clear zA; clear HB; have zA := n0_; have HB := n1_; clear n0_ n1_; clear hg hw hp_))
        go_roundg k1
        case measure => have := HK1.out; omega
        case rel => exact ⟨(y207), (wrap64 (x4_1 + 1)), (by first | rfl | (simp [*]; done)), H', ⟨by have := HK1.out; omega⟩, ⟨RL zA.out⟩, ⟨by repeat (first | (with_reducible first | exact HB.out | apply zh | apply zf | apply zg) | exact HB.out)⟩⟩
       ·rw [if_neg c9] at H
        exact absurd H (by simp)
      ·rw [if_neg c7] at H
       exact absurd H (by simp)
     ·rw [if_neg c6] at H
      have c6b0 : decide (x4_1 < (l0.length : Int)) = false := decide_eq_false c6
      clear c6
      obtain rfl := Option.some.inj H
      go_wp2
      go_ret
      exact ⟨_, by first | rfl | (simp [*] <;> rfl), RL zA.out, by repeat (first | (with_reducible first | exact HB.out | apply zh | apply zf | apply zg) | exact HB.out)⟩
  ·rw [if_neg c3] at H
   exact absurd H (by simp)
 ·rw [if_neg c2] at H
  exact absurd H (by simp)

def laws_toTree.f (k : Nat) (l0_0 : List (S171)) : Option ((List (S77))) := (laws_toNodeS.f k l0_0).bind fun t211 => (some t211)
theorem laws_toTree.mono : ∀ a0 k, LeO (laws_toTree.f k a0) (laws_toTree.f (k + 1) a0) := by
 intro a0 k
 unfold laws_toTree.f
 repeat' first
   | (with_reducible exact laws_toNodeS.mono _ _)
   | (with_reducible exact LeO.refl _)
   | (with_reducible exact LeO.none _)
   | (with_reducible refine LeO.ite ?_ ?_)
   | (with_reducible refine LeO.bind ?_ (fun _ => ?_))
   | exact laws_toNodeS.mono _ _
   | exact LeO.none _
   | refine LeO.ite ?_ ?_
   | refine LeO.bind ?_ (fun _ => ?_)
set_option maxHeartbeats 8000000 in
set_option maxRecDepth 100000 in
theorem laws_toTree.calls (k : Nat) (A0_0 : Option Addr) (c0_0 : Nat) (l0_0 : List (S171)) (r : List (S77)) (w : World) (hr0_0 : Kd.C k171 w A0_0 l0_0.length l0_0) (hc0_0 : l0_0.length ≤ c0_0) (h : laws_toTree.f k l0_0 = some r) :
  Calls Tryd.prog 19 #[.agg #[.slice A0_0 l0_0.length c0_0]] w fun e w' => ∃ v0_ : Value, e = .returned (.agg #[v0_]) ∧ Kd.R k77 77 w' w.heap.size (fun _ => True) v0_ r ∧ Below w.heap.size w w' := by
 have hu45 := Tryd.underlying45
 have hu25 := Tryd.underlying25
 have HR0_0 := Aside0.mk hr0_0
 have HC0_0 := Aside0.mk hc0_0
 clear hr0_0 hc0_0
 have HB := Aside0.mk (Below.refl w.heap.size w)
 have H : ((laws_toNodeS.f k l0_0).bind fun t211 => (some t211)) = some r := h
 clear h
 replace H := Option.bind_eq_some_iff.mp H
 obtain ⟨t211, A20, H⟩ := H
 try dsimp only at H
 have A2 := Aside0.mk A20
 clear A20
 obtain rfl := Option.some.inj H
 go_enter Tryd.func19, Tryd.ntmps19
 go_wp2_with (first | ((with_reducible refine zu (N := 1) rfl ?_); refine zy ?hg (N := 1) ?hd (cs := #[.slice A0_0 l0_0.length c0_0]) (t := 45) ?hr ?_; (case hd => rfl); (case hg => rfl); (case hr => first | (go_simp; done) | (go_simp; rfl)); intro zB hg w3 hbox hb; have n0_ := Aside0.mk (zn (by exact bl HB.out) hb); have n1_ := Aside0.mk (hbox); have n2_ := Aside0.mk ((by rw [hg]; exact (zm (by exact bl HB.out)) : w.heap.size ≤ zB)); have n3_ := Aside0.mk ((by rw [hg]; exact (zm (by exact bl HB.out)) : w.heap.size ≤ zB)); clear HB; have HB := n0_; have zA := n1_; have GW208 := n2_; have zN := n3_; clear n0_ n1_ n2_ n3_; clear hb hbox hg) | ((with_reducible refine zu (N := 2) rfl ?_); refine zy ?hg (N := 2) ?hd (cs := #[.slice none 0 0]) (t := 25) ?hr ?_; (case hd => rfl); (case hg => rfl); (case hr => first | (go_simp; done) | (go_simp; rfl)); intro zC hg w4 hbox hb; have n0_ := Aside0.mk (zi (g := zB) (o := .cells #[.slice A0_0 l0_0.length c0_0] 45 (0, 0)) (BL zA.out) hb); have n1_ := Aside0.mk (zn (by exact bl HB.out) hb); have n2_ := Aside0.mk (hbox); have n3_ := Aside0.mk ((by rw [hg]; exact (zm (by exact bl HB.out)) : w.heap.size ≤ zC)); have n4_ := Aside0.mk ((by rw [hg]; exact (zm (by exact bl HB.out)) : w.heap.size ≤ zC)); have n5_ := Aside0.mk ((by rw [hg]; exact Nat.ne_of_lt (zt (g := zB) (o := .cells #[.slice A0_0 l0_0.length c0_0] 45 (0, 0)) (BL zA.out)) : zB ≠ zC)); have n6_ := Aside0.mk ((by rw [hg]; exact Nat.ne_of_gt (zt (g := zB) (o := .cells #[.slice A0_0 l0_0.length c0_0] 45 (0, 0)) (BL zA.out)) : zC ≠ zB)); clear zA; clear HB; have zA := n0_; have HB := n1_; have zD := n2_; have GW209 := n3_; have zO := n4_; have zH := n5_; have zI := n6_; clear n0_ n1_ n2_ n3_ n4_ n5_ n6_; clear hb hbox hg) | ((with_reducible refine zu (N := 3) rfl ?_); refine zy ?hg (N := 3) ?hd (cs := #[.slice none 0 0]) (t := 25) ?hr ?_; (case hd => rfl); (case hg => rfl); (case hr => first | (go_simp; done) | (go_simp; rfl)); intro zE hg w5 hbox hb; have n0_ := Aside0.mk (zi (g := zB) (o := .cells #[.slice A0_0 l0_0.length c0_0] 45 (0, 0)) (BL zA.out) hb); have n1_ := Aside0.mk (zi (g := zC) (o := .cells #[.slice none 0 0] 25 (0, 0)) (BL zD.out) hb); have n2_ := Aside0.mk (zn (by exact bl HB.out) hb); have n3_ := Aside0.mk (hbox); have n4_ := Aside0.mk ((by rw [hg]; exact (zm (by exact bl HB.out)) : w.heap.size ≤ zE)); have n5_ := Aside0.mk ((by rw [hg]; exact (zm (by exact bl HB.out)) : w.heap.size ≤ zE)); have n6_ := Aside0.mk ((by rw [hg]; exact Nat.ne_of_lt (zt (g := zB) (o := .cells #[.slice A0_0 l0_0.length c0_0] 45 (0, 0)) (BL zA.out)) : zB ≠ zE)); have n7_ := Aside0.mk ((by rw [hg]; exact Nat.ne_of_gt (zt (g := zB) (o := .cells #[.slice A0_0 l0_0.length c0_0] 45 (0, 0)) (BL zA.out)) : zE ≠ zB)); have n8_ := Aside0.mk ((by rw [hg]; exact Nat.ne_of_lt (zt (g := zC) (o := .cells #[.slice none 0 0] 25 (0, 0)) (BL zD.out)) : zC ≠ zE)); have n9_ := Aside0.mk ((by rw [hg]; exact Nat.ne_of_gt (zt (g := zC) (o := .cells #[.slice none 0 0] 25 (0, 0)) (BL zD.out)) : zE ≠ zC)); clear zA; clear zD; clear HB; have zA := n0_; have zD := n1_; have HB := n2_; have zF := n3_; have GW210 := n4_; have zP := n5_; have zJ := n6_; have zK := n7_; have zG := n8_; have zL := n9_; clear n0_ n1_ n2_ n3_ n4_ n5_ n6_ n7_ n8_ n9_; clear hb hbox hg; have zZ := zH.out; have zab := zI.out; have zbb := zJ.out; have zcb := zK.out; have zV : w5.cell? ⟨zB, 0, none⟩ = some (.slice A0_0 l0_0.length c0_0) := (zc zA.out 0).trans rfl; have zW := ze zA.out 0) | ((with_reducible refine zr (f := 61) rfl ?_); refine zz (some 6) rfl rfl Tryd.func61 (by kernel_rfl) rfl #[.slice A0_0 l0_0.length c0_0] rfl (by (try simp only [List.map_toArray, List.map_cons, List.map_nil]); first | done | rfl) ?_; (with_reducible refine (laws_toNodeS.calls k _ _ l0_0 t211 _ ?side1 ?side2 A2.out).mono ?_); (case side1 => repeat (first | exact (Kd.C_below HR0_0.out HB.out) | (with_reducible refine Kd.C_alloc ?_ _) | (with_reducible refine Kd.C_drewN ?_ _) | (with_reducible refine Kd.C_drew ?_))); (case side2 => exact HC0_0.out); rintro e w9 ⟨v212, rfl, zQ, hb⟩; refine ⟨_, rfl, ?_⟩; have n0_ := Aside0.mk (Kd.R_lower zQ (zm (by exact bl HB.out))); have n1_ := Aside0.mk (zi (g := zB) (o := .cells #[.slice A0_0 l0_0.length c0_0] 45 (0, 0)) (BL zA.out) hb); have n2_ := Aside0.mk (zi (g := zC) (o := .cells #[.slice none 0 0] 25 (0, 0)) (BL zD.out) hb); have n3_ := Aside0.mk (zi (g := zE) (o := .cells #[.slice none 0 0] 25 (0, 0)) (BL zF.out) hb); have n4_ := Aside0.mk (zn (by exact bl HB.out) hb); clear zA; clear zD; clear zF; clear HB; have zM := n0_; have zA := n1_; have zD := n2_; have zF := n3_; have HB := n4_; clear n0_ n1_ n2_ n3_ n4_; (try clear hb); (try clear hb2); (try clear hk); (try clear hi); (try clear zQ); obtain ⟨Ao10, co10, eo10⟩ := Kd.R_slice zM.out; subst eo10; have zX := zL.out; have zY := zG.out; have zR : w9.cell? ⟨zE, 0, none⟩ = some (.slice none 0 0) := (zc zF.out 0).trans rfl; have zS := ze zF.out 0; have zT : w9.cell? ⟨zC, 0, none⟩ = some (.slice none 0 0) := (zc zD.out 0).trans rfl; have zU := ze zD.out 0))
 refine bodyPost_ret (results_cell_row rfl _ _ zC 25 #[.slice Ao10 t211.length co10] (0, 0) _ rfl (by (with_reducible repeat (first | refine zk ?_ _ | refine zl ?_ | refine zj ?_ _)); refine zv (cs := #[.slice none 0 0]) ?_ 0 _ rfl; (with_reducible repeat (first | refine zk ?_ _ | refine zl ?_ | refine zj ?_ _)); refine zw ?_ zG.out _; (with_reducible repeat (first | refine zk ?_ _ | refine zl ?_ | refine zj ?_ _)); exact zD.out) Tryd.underlying25 rfl (by kernel_rfl)) rfl ?_
 exact ⟨_, by first | rfl | (simp [*] <;> rfl), RL (Kd.R_mono (Kd.R_far (p := ⟨zC, 0, none⟩) (Kd.R_far (p := ⟨zE, 0, none⟩) (Kd.R_types (Kd.R_types zM.out zF.out (by decide)) zD.out (by decide)) (fun _ hk => hk.1.2) (.slice Ao10 t211.length co10)) (fun _ hk => hk.2) (.slice Ao10 t211.length co10)) (fun _ hk => trivial)), by repeat (first | (with_reducible first | exact HB.out | apply zh | apply zf | apply zg | refine zd ?_ zN.out | refine zd ?_ zO.out | refine zd ?_ zP.out) | exact HB.out)⟩

def laws_toEffect.f (a0_0 : Bool) (a0_1 : ByteArray) (a0_2 : ByteArray) (a0_3 : Int) (a0_4 : Int) (a0_5 : Int) (a0_6 : Int) (a0_7 : Int) : Option (Bool × ByteArray × ByteArray × Int × Int × Int × Int × Int) := (laws_toNode.f a0_1 a0_2 a0_3 a0_4 a0_5 a0_6 a0_7).bind fun bt217 => (some (a0_0, bt217.1, bt217.2.1, bt217.2.2.1, bt217.2.2.2.1, bt217.2.2.2.2.1, bt217.2.2.2.2.2.1, bt217.2.2.2.2.2.2))
set_option maxHeartbeats 8000000 in
set_option maxRecDepth 100000 in
theorem laws_toEffect.calls (a0_0 : Bool) (a0_1 : ByteArray) (a0_2 : ByteArray) (a0_3 : Int) (a0_4 : Int) (a0_5 : Int) (a0_6 : Int) (a0_7 : Int) (r1 : Bool) (r2 : ByteArray) (r3 : ByteArray) (r4 : Int) (r5 : Int) (r6 : Int) (r7 : Int) (r8 : Int) (w : World) (h : laws_toEffect.f a0_0 a0_1 a0_2 a0_3 a0_4 a0_5 a0_6 a0_7 = some (r1, r2, r3, r4, r5, r6, r7, r8)) :
  Calls Tryd.prog 105 #[.agg #[.bool a0_0, .string a0_1, .string a0_2, .int .i64 a0_3, .int .i64 a0_4, .int .i64 a0_5, .int .i64 a0_6, .int .i64 a0_7]] w fun e w' => e = .returned (.agg #[.bool r1, .string r2, .string r3, .int .i64 r4, .int .i64 r5, .int .i64 r6, .int .i64 r7, .int .i64 r8]) ∧ Below w.heap.size w w' := by
 have hu174 := Tryd.underlying174
 have hu108 := Tryd.underlying108
 have hu171 := Tryd.underlying171
 have hu77 := Tryd.underlying77
 have HB := Aside0.mk (Below.refl w.heap.size w)
 have H : ((laws_toNode.f a0_1 a0_2 a0_3 a0_4 a0_5 a0_6 a0_7).bind fun bt217 => (some (a0_0, bt217.1, bt217.2.1, bt217.2.2.1, bt217.2.2.2.1, bt217.2.2.2.2.1, bt217.2.2.2.2.2.1, bt217.2.2.2.2.2.2))) = some (r1, r2, r3, r4, r5, r6, r7, r8) := h
 clear h
 replace H := Option.bind_eq_some_iff.mp H
 obtain ⟨⟨t217, t218, t219, t220, t221, t222, t223⟩, A20, H⟩ := H
 try dsimp only at H
 have A2 := Aside0.mk A20
 clear A20
 simp only [Option.some.injEq, Prod.mk.injEq] at H
 obtain ⟨rfl, rfl, rfl, rfl, rfl, rfl, rfl, rfl⟩ := H
 go_enter Tryd.func105, Tryd.ntmps105
 go_wp2_with (first | ((with_reducible refine zu (N := 1) rfl ?_); refine zy ?hg (N := 1) ?hd (cs := #[.bool a0_0, .string a0_1, .string a0_2, .int .i64 a0_3, .int .i64 a0_4, .int .i64 a0_5, .int .i64 a0_6, .int .i64 a0_7]) (t := 174) ?hr ?_; (case hd => rfl); (case hg => rfl); (case hr => first | (go_simp; done) | (go_simp; rfl)); intro zE hg w3 hbox hb; have n0_ := Aside0.mk (zn (by exact bl HB.out) hb); have n1_ := Aside0.mk (hbox); have n2_ := Aside0.mk ((by rw [hg]; exact (zm (by exact bl HB.out)) : w.heap.size ≤ zE)); have n3_ := Aside0.mk ((by rw [hg]; exact (zm (by exact bl HB.out)) : w.heap.size ≤ zE)); clear HB; have HB := n0_; have zB := n1_; have GW214 := n2_; have zM := n3_; clear n0_ n1_ n2_ n3_; clear hb hbox hg) | ((with_reducible refine zu (N := 2) rfl ?_); refine zy ?hg (N := 2) ?hd (cs := #[.bool false, .string (⟨#[]⟩ : ByteArray), .string (⟨#[]⟩ : ByteArray), .int .i64 0, .int .i64 0, .int .i64 0, .int .i64 0, .int .i64 0]) (t := 108) ?hr ?_; (case hd => rfl); (case hg => rfl); (case hr => first | (go_simp; done) | (go_simp; rfl)); intro zF hg w4 hbox hb; have n0_ := Aside0.mk (zi (g := zE) (o := .cells #[.bool a0_0, .string a0_1, .string a0_2, .int .i64 a0_3, .int .i64 a0_4, .int .i64 a0_5, .int .i64 a0_6, .int .i64 a0_7] 174 (0, 0)) (BL zB.out) hb); have n1_ := Aside0.mk (zn (by exact bl HB.out) hb); have n2_ := Aside0.mk (hbox); have n3_ := Aside0.mk ((by rw [hg]; exact (zm (by exact bl HB.out)) : w.heap.size ≤ zF)); have n4_ := Aside0.mk ((by rw [hg]; exact (zm (by exact bl HB.out)) : w.heap.size ≤ zF)); have n5_ := Aside0.mk ((by rw [hg]; exact Nat.ne_of_lt (zt (g := zE) (o := .cells #[.bool a0_0, .string a0_1, .string a0_2, .int .i64 a0_3, .int .i64 a0_4, .int .i64 a0_5, .int .i64 a0_6, .int .i64 a0_7] 174 (0, 0)) (BL zB.out)) : zE ≠ zF)); have n6_ := Aside0.mk ((by rw [hg]; exact Nat.ne_of_gt (zt (g := zE) (o := .cells #[.bool a0_0, .string a0_1, .string a0_2, .int .i64 a0_3, .int .i64 a0_4, .int .i64 a0_5, .int .i64 a0_6, .int .i64 a0_7] 174 (0, 0)) (BL zB.out)) : zF ≠ zE)); clear zB; clear HB; have zB := n0_; have HB := n1_; have zC := n2_; have GW215 := n3_; have zN := n4_; have zI := n5_; have zJ := n6_; clear n0_ n1_ n2_ n3_ n4_ n5_ n6_; clear hb hbox hg) | ((with_reducible refine zu (N := 3) rfl ?_); refine zy ?hg (N := 3) ?hd (cs := #[.bool false, .string (⟨#[]⟩ : ByteArray), .string (⟨#[]⟩ : ByteArray), .int .i64 0, .int .i64 0, .int .i64 0, .int .i64 0, .int .i64 0]) (t := 108) ?hr ?_; (case hd => rfl); (case hg => rfl); (case hr => first | (go_simp; done) | (go_simp; rfl)); intro zD hg w5 hbox hb; have n0_ := Aside0.mk (zi (g := zE) (o := .cells #[.bool a0_0, .string a0_1, .string a0_2, .int .i64 a0_3, .int .i64 a0_4, .int .i64 a0_5, .int .i64 a0_6, .int .i64 a0_7] 174 (0, 0)) (BL zB.out) hb); have n1_ := Aside0.mk (zi (g := zF) (o := .cells #[.bool false, .string (⟨#[]⟩ : ByteArray), .string (⟨#[]⟩ : ByteArray), .int .i64 0, .int .i64 0, .int .i64 0, .int .i64 0, .int .i64 0] 108 (0, 0)) (BL zC.out) hb); have n2_ := Aside0.mk (zn (by exact bl HB.out) hb); have n3_ := Aside0.mk (hbox); have n4_ := Aside0.mk ((by rw [hg]; exact (zm (by exact bl HB.out)) : w.heap.size ≤ zD)); have n5_ := Aside0.mk ((by rw [hg]; exact (zm (by exact bl HB.out)) : w.heap.size ≤ zD)); have n6_ := Aside0.mk ((by rw [hg]; exact Nat.ne_of_lt (zt (g := zE) (o := .cells #[.bool a0_0, .string a0_1, .string a0_2, .int .i64 a0_3, .int .i64 a0_4, .int .i64 a0_5, .int .i64 a0_6, .int .i64 a0_7] 174 (0, 0)) (BL zB.out)) : zE ≠ zD)); have n7_ := Aside0.mk ((by rw [hg]; exact Nat.ne_of_gt (zt (g := zE) (o := .cells #[.bool a0_0, .string a0_1, .string a0_2, .int .i64 a0_3, .int .i64 a0_4, .int .i64 a0_5, .int .i64 a0_6, .int .i64 a0_7] 174 (0, 0)) (BL zB.out)) : zD ≠ zE)); have n8_ := Aside0.mk ((by rw [hg]; exact Nat.ne_of_lt (zt (g := zF) (o := .cells #[.bool false, .string (⟨#[]⟩ : ByteArray), .string (⟨#[]⟩ : ByteArray), .int .i64 0, .int .i64 0, .int .i64 0, .int .i64 0, .int .i64 0] 108 (0, 0)) (BL zC.out)) : zF ≠ zD)); have n9_ := Aside0.mk ((by rw [hg]; exact Nat.ne_of_gt (zt (g := zF) (o := .cells #[.bool false, .string (⟨#[]⟩ : ByteArray), .string (⟨#[]⟩ : ByteArray), .int .i64 0, .int .i64 0, .int .i64 0, .int .i64 0, .int .i64 0] 108 (0, 0)) (BL zC.out)) : zD ≠ zF)); clear zB; clear zC; clear HB; have zB := n0_; have zC := n1_; have HB := n2_; have zA := n3_; have GW216 := n4_; have zO := n5_; have zH := n6_; have zK := n7_; have zG := n8_; have zL := n9_; clear n0_ n1_ n2_ n3_ n4_ n5_ n6_ n7_ n8_ n9_; clear hb hbox hg; have zbc := zI.out; have zcc := zJ.out; have zdc := zH.out; have zec := zK.out; have zLb : w5.cell? ⟨zE, 0, none⟩ = some (.bool a0_0) := (zc zB.out 0).trans rfl; have zMb : w5.cell? ⟨zE, 1, none⟩ = some (.string a0_1) := (zc zB.out 1).trans rfl; have zNb : w5.cell? ⟨zE, 2, none⟩ = some (.string a0_2) := (zc zB.out 2).trans rfl; have zOb : w5.cell? ⟨zE, 3, none⟩ = some (.int .i64 a0_3) := (zc zB.out 3).trans rfl; have zPb : w5.cell? ⟨zE, 4, none⟩ = some (.int .i64 a0_4) := (zc zB.out 4).trans rfl; have zQb : w5.cell? ⟨zE, 5, none⟩ = some (.int .i64 a0_5) := (zc zB.out 5).trans rfl; have zRb : w5.cell? ⟨zE, 6, none⟩ = some (.int .i64 a0_6) := (zc zB.out 6).trans rfl; have zSb : w5.cell? ⟨zE, 7, none⟩ = some (.int .i64 a0_7) := (zc zB.out 7).trans rfl; have zTb := ze zB.out 0; have zUb := ze zB.out 1; have zVb := ze zB.out 2; have zWb := ze zB.out 3; have zXb := ze zB.out 4; have zYb := ze zB.out 5; have zZb := ze zB.out 6; have zac := ze zB.out 7; have zfc := zL.out; have zgc := zG.out; have zP : w5.cell? ⟨zD, 0, none⟩ = some (.bool false) := (zc zA.out 0).trans rfl; have zQ : w5.cell? ⟨zD, 1, none⟩ = some (.string (⟨#[]⟩ : ByteArray)) := (zc zA.out 1).trans rfl; have zR : w5.cell? ⟨zD, 2, none⟩ = some (.string (⟨#[]⟩ : ByteArray)) := (zc zA.out 2).trans rfl; have zS : w5.cell? ⟨zD, 3, none⟩ = some (.int .i64 0) := (zc zA.out 3).trans rfl; have zT : w5.cell? ⟨zD, 4, none⟩ = some (.int .i64 0) := (zc zA.out 4).trans rfl; have zU : w5.cell? ⟨zD, 5, none⟩ = some (.int .i64 0) := (zc zA.out 5).trans rfl; have zV : w5.cell? ⟨zD, 6, none⟩ = some (.int .i64 0) := (zc zA.out 6).trans rfl; have zW : w5.cell? ⟨zD, 7, none⟩ = some (.int .i64 0) := (zc zA.out 7).trans rfl; have zX := ze zA.out 0; have zY := ze zA.out 1; have zZ := ze zA.out 2; have zab := ze zA.out 3; have zbb := ze zA.out 4; have zcb := ze zA.out 5; have zdb := ze zA.out 6; have zeb := ze zA.out 7) | ((with_reducible refine zr (f := 104) rfl ?_); refine zz (some 9) rfl rfl Tryd.func104 (by kernel_rfl) rfl #[.agg #[.string a0_1, .string a0_2, .int .i64 a0_3, .int .i64 a0_4, .int .i64 a0_5, .int .i64 a0_6, .int .i64 a0_7]] rfl (by (try simp only [List.map_toArray, List.map_cons, List.map_nil]); first | done | rfl) ?_; (with_reducible refine (laws_toNode.calls a0_1 a0_2 a0_3 a0_4 a0_5 a0_6 a0_7 t217 t218 t219 t220 t221 t222 t223 _ A2.out).mono ?_); rintro e w11 ⟨rfl, hb⟩; refine ⟨_, rfl, ?_⟩; have n0_ := Aside0.mk (zi (g := zE) (o := .cells #[.bool a0_0, .string a0_1, .string a0_2, .int .i64 a0_3, .int .i64 a0_4, .int .i64 a0_5, .int .i64 a0_6, .int .i64 a0_7] 174 (0, 0)) (by (with_reducible repeat (first | refine zk ?_ _ | refine zl ?_ | refine zj ?_ _)); refine zw ?_ zH.out _; (with_reducible repeat (first | refine zk ?_ _ | refine zl ?_ | refine zj ?_ _)); exact zB.out) hb); have n1_ := Aside0.mk (zi (g := zF) (o := .cells #[.bool false, .string (⟨#[]⟩ : ByteArray), .string (⟨#[]⟩ : ByteArray), .int .i64 0, .int .i64 0, .int .i64 0, .int .i64 0, .int .i64 0] 108 (0, 0)) (by (with_reducible repeat (first | refine zk ?_ _ | refine zl ?_ | refine zj ?_ _)); refine zw ?_ zG.out _; (with_reducible repeat (first | refine zk ?_ _ | refine zl ?_ | refine zj ?_ _)); exact zC.out) hb); have n2_ := Aside0.mk (zi (g := zD) (o := .cells #[.bool a0_0, .string (⟨#[]⟩ : ByteArray), .string (⟨#[]⟩ : ByteArray), .int .i64 0, .int .i64 0, .int .i64 0, .int .i64 0, .int .i64 0] 108 (0, 0)) (by (with_reducible repeat (first | refine zk ?_ _ | refine zl ?_ | refine zj ?_ _)); refine zv (cs := #[.bool false, .string (⟨#[]⟩ : ByteArray), .string (⟨#[]⟩ : ByteArray), .int .i64 0, .int .i64 0, .int .i64 0, .int .i64 0, .int .i64 0]) ?_ 0 _ rfl; (with_reducible repeat (first | refine zk ?_ _ | refine zl ?_ | refine zj ?_ _)); exact zA.out) hb); have n3_ := Aside0.mk (zn (by repeat (first | (with_reducible first | exact HB.out | apply zh | apply zf | apply zg | refine zd ?_ zM.out | refine zd ?_ zN.out | refine zd ?_ zO.out) | exact HB.out)) hb); clear zB; clear zC; clear zA; clear HB; have zB := n0_; have zC := n1_; have zA := n2_; have HB := n3_; clear n0_ n1_ n2_ n3_; (try clear hb); (try clear hb2); (try clear hk); (try clear hi); have zfb : w11.cell? ⟨zD, 0, none⟩ = some (.bool a0_0) := (zc zA.out 0).trans rfl; have zgb : w11.cell? ⟨zD, 1, none⟩ = some (.string (⟨#[]⟩ : ByteArray)) := (zc zA.out 1).trans rfl; have zhb : w11.cell? ⟨zD, 2, none⟩ = some (.string (⟨#[]⟩ : ByteArray)) := (zc zA.out 2).trans rfl; have zib : w11.cell? ⟨zD, 3, none⟩ = some (.int .i64 0) := (zc zA.out 3).trans rfl; have zjb : w11.cell? ⟨zD, 4, none⟩ = some (.int .i64 0) := (zc zA.out 4).trans rfl; have zkb : w11.cell? ⟨zD, 5, none⟩ = some (.int .i64 0) := (zc zA.out 5).trans rfl; have zlb : w11.cell? ⟨zD, 6, none⟩ = some (.int .i64 0) := (zc zA.out 6).trans rfl; have zmb : w11.cell? ⟨zD, 7, none⟩ = some (.int .i64 0) := (zc zA.out 7).trans rfl; have znb := ze zA.out 0; have zob := ze zA.out 1; have zpb := ze zA.out 2; have zqb := ze zA.out 3; have zrb := ze zA.out 4; have zsb := ze zA.out 5; have ztb := ze zA.out 6; have zub := ze zA.out 7; have zvb : w11.cell? ⟨zF, 0, none⟩ = some (.bool false) := (zc zC.out 0).trans rfl; have zwb : w11.cell? ⟨zF, 1, none⟩ = some (.string (⟨#[]⟩ : ByteArray)) := (zc zC.out 1).trans rfl; have zxb : w11.cell? ⟨zF, 2, none⟩ = some (.string (⟨#[]⟩ : ByteArray)) := (zc zC.out 2).trans rfl; have zyb : w11.cell? ⟨zF, 3, none⟩ = some (.int .i64 0) := (zc zC.out 3).trans rfl; have zzb : w11.cell? ⟨zF, 4, none⟩ = some (.int .i64 0) := (zc zC.out 4).trans rfl; have zAb : w11.cell? ⟨zF, 5, none⟩ = some (.int .i64 0) := (zc zC.out 5).trans rfl; have zBb : w11.cell? ⟨zF, 6, none⟩ = some (.int .i64 0) := (zc zC.out 6).trans rfl; have zCb : w11.cell? ⟨zF, 7, none⟩ = some (.int .i64 0) := (zc zC.out 7).trans rfl; have zDb := ze zC.out 0; have zEb := ze zC.out 1; have zFb := ze zC.out 2; have zGb := ze zC.out 3; have zHb := ze zC.out 4; have zIb := ze zC.out 5; have zJb := ze zC.out 6; have zKb := ze zC.out 7))
 refine bodyPost_ret (results_cell_row rfl _ _ zF 108 #[.bool a0_0, .string t217, .string t218, .int .i64 t219, .int .i64 t220, .int .i64 t221, .int .i64 t222, .int .i64 t223] (0, 0) _ rfl (by (with_reducible repeat (first | refine zk ?_ _ | refine zl ?_ | refine zj ?_ _)); refine zv (cs := #[.bool a0_0, .string t217, .string t218, .int .i64 t219, .int .i64 t220, .int .i64 t221, .int .i64 t222, .int .i64 0]) ?_ 7 _ rfl; (with_reducible repeat (first | refine zk ?_ _ | refine zl ?_ | refine zj ?_ _)); refine zv (cs := #[.bool a0_0, .string t217, .string t218, .int .i64 t219, .int .i64 t220, .int .i64 t221, .int .i64 0, .int .i64 0]) ?_ 6 _ rfl; (with_reducible repeat (first | refine zk ?_ _ | refine zl ?_ | refine zj ?_ _)); refine zv (cs := #[.bool a0_0, .string t217, .string t218, .int .i64 t219, .int .i64 t220, .int .i64 0, .int .i64 0, .int .i64 0]) ?_ 5 _ rfl; (with_reducible repeat (first | refine zk ?_ _ | refine zl ?_ | refine zj ?_ _)); refine zv (cs := #[.bool a0_0, .string t217, .string t218, .int .i64 t219, .int .i64 0, .int .i64 0, .int .i64 0, .int .i64 0]) ?_ 4 _ rfl; (with_reducible repeat (first | refine zk ?_ _ | refine zl ?_ | refine zj ?_ _)); refine zv (cs := #[.bool a0_0, .string t217, .string t218, .int .i64 0, .int .i64 0, .int .i64 0, .int .i64 0, .int .i64 0]) ?_ 3 _ rfl; (with_reducible repeat (first | refine zk ?_ _ | refine zl ?_ | refine zj ?_ _)); refine zv (cs := #[.bool a0_0, .string t217, .string (⟨#[]⟩ : ByteArray), .int .i64 0, .int .i64 0, .int .i64 0, .int .i64 0, .int .i64 0]) ?_ 2 _ rfl; (with_reducible repeat (first | refine zk ?_ _ | refine zl ?_ | refine zj ?_ _)); refine zv (cs := #[.bool a0_0, .string (⟨#[]⟩ : ByteArray), .string (⟨#[]⟩ : ByteArray), .int .i64 0, .int .i64 0, .int .i64 0, .int .i64 0, .int .i64 0]) ?_ 1 _ rfl; (with_reducible repeat (first | refine zk ?_ _ | refine zl ?_ | refine zj ?_ _)); refine zv (cs := #[.bool false, .string (⟨#[]⟩ : ByteArray), .string (⟨#[]⟩ : ByteArray), .int .i64 0, .int .i64 0, .int .i64 0, .int .i64 0, .int .i64 0]) ?_ 0 _ rfl; (with_reducible repeat (first | refine zk ?_ _ | refine zl ?_ | refine zj ?_ _)); refine zw ?_ zG.out _; (with_reducible repeat (first | refine zk ?_ _ | refine zl ?_ | refine zj ?_ _)); refine zw ?_ zG.out _; (with_reducible repeat (first | refine zk ?_ _ | refine zl ?_ | refine zj ?_ _)); refine zw ?_ zG.out _; (with_reducible repeat (first | refine zk ?_ _ | refine zl ?_ | refine zj ?_ _)); refine zw ?_ zG.out _; (with_reducible repeat (first | refine zk ?_ _ | refine zl ?_ | refine zj ?_ _)); refine zw ?_ zG.out _; (with_reducible repeat (first | refine zk ?_ _ | refine zl ?_ | refine zj ?_ _)); refine zw ?_ zG.out _; (with_reducible repeat (first | refine zk ?_ _ | refine zl ?_ | refine zj ?_ _)); refine zw ?_ zG.out _; (with_reducible repeat (first | refine zk ?_ _ | refine zl ?_ | refine zj ?_ _)); exact zC.out) Tryd.underlying108 rfl (by kernel_rfl)) rfl ?_
 exact ⟨by first | rfl | (simp [*] <;> rfl), by repeat (first | (with_reducible first | exact HB.out | apply zh | apply zf | apply zg | refine zd ?_ zM.out | refine zd ?_ zN.out | refine zd ?_ zO.out) | exact HB.out)⟩

def laws_toEffectS.l0 : Nat → List (S174) → List (S108) → Int → Option ((List (S108)))
 | 0, _, _, _ => none
 | k + 1, x0, x3, x4 => if x4 < (x0.length : Int) then (if 0 ≤ x4 then ((laws_toEffect.f ((rd_T174 x0 x4).f0) ((rd_T174 x0 x4).f1.f0) ((rd_T174 x0 x4).f1.f1) ((rd_T174 x0 x4).f1.f2) ((rd_T174 x0 x4).f1.f3) ((rd_T174 x0 x4).f1.f4) ((rd_T174 x0 x4).f1.f5) ((rd_T174 x0 x4).f1.f6)).bind fun bt228 => (if x4 < (x3.length : Int) then (laws_toEffectS.l0 k x0 (x3.set (x4 : Int).toNat (⟨bt228.1, (⟨bt228.2.1, bt228.2.2.1, bt228.2.2.2.1, bt228.2.2.2.2.1, bt228.2.2.2.2.2.1, bt228.2.2.2.2.2.2.1, bt228.2.2.2.2.2.2.2⟩ : S77)⟩ : S108)) (wrap64 (x4 + 1))) else (none))) else (none)) else (some x3)
def laws_toEffectS.f (k : Nat) (l0 : List (S174)) : Option ((List (S108))) := if 0 ≤ (l0.length : Int) then (if ((l0.length : Int) : Int).toNat ≤ 3518437208883 then (laws_toEffectS.l0 k l0 (List.replicate ((l0.length : Int) : Int).toNat z108) 0) else (none)) else (none)
theorem laws_toEffectS.mono_l : ∀ k, (∀ y0 y1 y2, LeO (laws_toEffectS.l0 k y0 y1 y2) (laws_toEffectS.l0 (k + 1) y0 y1 y2))
 | 0 => fun _ _ _ r h => by simp [laws_toEffectS.l0] at h
 | k + 1 => by
  have ih0 := laws_toEffectS.mono_l k
  ·intro y0 y1 y2
   unfold laws_toEffectS.l0
   repeat' first
   | (with_reducible exact ih0 _ _ _)
   | (with_reducible exact LeO.refl _)
   | (with_reducible exact LeO.none _)
   | (with_reducible refine LeO.ite ?_ ?_)
   | (with_reducible refine LeO.bind ?_ (fun _ => ?_))
   | exact ih0 _ _ _
   | exact LeO.none _
   | refine LeO.ite ?_ ?_
   | refine LeO.bind ?_ (fun _ => ?_)
theorem laws_toEffectS.mono : ∀ a0 k, LeO (laws_toEffectS.f k a0) (laws_toEffectS.f (k + 1) a0) := by
 intro a0 k
 have ih0 := laws_toEffectS.mono_l k
 unfold laws_toEffectS.f
 repeat' first
   | (with_reducible exact ih0 _ _ _)
   | (with_reducible exact LeO.refl _)
   | (with_reducible exact LeO.none _)
   | (with_reducible refine LeO.ite ?_ ?_)
   | (with_reducible refine LeO.bind ?_ (fun _ => ?_))
   | exact ih0 _ _ _
   | exact LeO.none _
   | refine LeO.ite ?_ ?_
   | refine LeO.bind ?_ (fun _ => ?_)
set_option maxHeartbeats 8000000 in
set_option maxRecDepth 100000 in
theorem laws_toEffectS.calls (k : Nat) (A0 : Option Addr) (c0 : Nat) (l0 : List (S174)) (r : List (S108)) (w : World) (hr0 : Kd.C k174 w A0 l0.length l0) (hc0 : l0.length ≤ c0) (h : laws_toEffectS.f k l0 = some r) :
  Calls Tryd.prog 62 #[.slice A0 l0.length c0] w fun e w' => ∃ v0_ : Value, e = .returned (v0_) ∧ Kd.R k108 108 w' w.heap.size (fun _ => True) v0_ r ∧ Below w.heap.size w w' := by
 have hu174 := Tryd.underlying174
 have hu108 := Tryd.underlying108
 have HR0 := Aside0.mk hr0
 have HC0 := Aside0.mk hc0
 clear hr0 hc0
 have HB := Aside0.mk (Below.refl w.heap.size w)
 have H : (if 0 ≤ (l0.length : Int) then (if ((l0.length : Int) : Int).toNat ≤ 3518437208883 then (laws_toEffectS.l0 k l0 (List.replicate ((l0.length : Int) : Int).toNat z108) 0) else (none)) else (none)) = some r := h
 clear h
 by_cases c2 : 0 ≤ (l0.length : Int)
 ·rw [if_pos c2] at H
  have c2b0 := eq_true c2
  have c2b1 : decide (0 ≤ (l0.length : Int)) = true := decide_eq_true c2
  clear c2
  by_cases c3 : ((l0.length : Int) : Int).toNat ≤ 3518437208883
  ·rw [if_pos c3] at H
   have c3b0 := eq_true c3
   have c3b1 : decide (((l0.length : Int) : Int).toNat ≤ 3518437208883) = true := decide_eq_true c3
   clear c3
   obtain ⟨y224, hy224⟩ : ∃ y_ : List (S108), y_ = (List.replicate ((l0.length : Int) : Int).toNat z108) := ⟨_, rfl⟩
   replace H : (laws_toEffectS.l0 k l0 y224 0) = some r := by first | (rw [hy224]; with_reducible exact H) | (have H2_ := (Option.bind_some _ _).symm.trans H; rw [hy224]; with_reducible exact H2_) | (have H2_ := (Option.bind_some _ _).symm.trans H; with_reducible exact H2_) | with_reducible exact H | (rw [hy224]; exact H) | exact H
   have Ny224 := Aside0.mk hy224
   clear hy224
   have H' := Aside0.mk H
   clear H
   go_enter Tryd.func62, Tryd.ntmps62
   go_wp2_with (first | ((with_reducible refine zu (N := 7) rfl ?_); refine Kd.R_make k108 _ 108 rfl (N := 7) rfl 53 _ _ rfl (l0.length : Int) rfl rfl Tryd.underlying53 (.agg #[(.bool false), (.string ⟨#[]⟩), (.string ⟨#[]⟩), (.int .i64 0), (.int .i64 0), (.int .i64 0), (.int .i64 0), (.int .i64 0)]) 80 info108 rfl (by decide) (by omega) z108 (ok := fun _ => True) (okp := fun _ => True) (k108_mkM _ _ _ z108 ) (fun _ hk => hk) trivial (of_decide_eq_true (by with_reducible assumption)) (Nat.le_trans (Nat.mul_le_mul_right _ (of_decide_eq_true (by with_reducible assumption) : (l0.length : Int).toNat ≤ 3518437208883)) (by omega)) (Below.refl _ _) (Nat.le_refl _) ?_; intro v225 w4 zB hb hg_ hnew_; clear hg_ hnew_; (first | rw [← Ny224.out] at zB | (simp only [Int.reduceToNat] at zB; rw [← Ny224.out] at zB)); have n0_ := Aside0.mk (Kd.R_lower zB (zm (by exact bl HB.out))); have n1_ := Aside0.mk (zn (by exact bl HB.out) hb); clear HB; have zD := n0_; have HB := n1_; clear n0_ n1_; clear hb zB))
   go_loopg [4] k (fun kq v4 w' => ∃ (x3_1 : List (S108)) (x4_1 : Int), v4 = .int .i64 x4_1 ∧ Aside0 (laws_toEffectS.l0 kq l0 x3_1 x4_1 = some r) ∧ Aside0 (kq ≤ k) ∧ Aside0 (Kd.R k108 108 w' w.heap.size (fun _ => True) v225 x3_1) ∧ Aside0 (Below w.heap.size w w'))
   case atStart => exact ⟨(y224), (0), (by first | rfl | (simp [*]; done)), H', ⟨Nat.le_refl _⟩, ⟨RL zD.out⟩, ⟨by repeat (first | (with_reducible first | exact HB.out | apply zh | apply zf | apply zg) | exact HB.out)⟩⟩
   case round =>
    clear H'
    try clear c2
    try clear c2b0
    try clear c2b1
    try clear p2
    try clear c3
    try clear c3b0
    try clear c3b1
    obtain ⟨x3_1, x4_1, rfl, HA, HK1, zA, HB⟩ := hrel
    cases gk with
    | zero => exact absurd HA.out (by simp [laws_toEffectS.l0])
    | succ k1 =>
     have H := HA.out
     clear HA
     simp only [laws_toEffectS.l0] at H
     by_cases c6 : x4_1 < (l0.length : Int)
     ·rw [if_pos c6] at H
      have c6b0 : decide (x4_1 < (l0.length : Int)) = true := decide_eq_true c6
      clear c6
      by_cases c7 : 0 ≤ x4_1
      ·rw [if_pos c7] at H
       have c7b0 : decide (0 ≤ x4_1) = true := decide_eq_true c7
       clear c7
       replace H := Option.bind_eq_some_iff.mp H
       obtain ⟨⟨t228, t229, t230, t231, t232, t233, t234, t235⟩, A80, H⟩ := H
       try dsimp only at H
       have A8 := Aside0.mk A80
       clear A80
       by_cases c9 : x4_1 < (x3_1.length : Int)
       ·rw [if_pos c9] at H
        have c9b0 : decide (x4_1 < (x3_1.length : Int)) = true := decide_eq_true c9
        clear c9
        obtain ⟨y236, hy236⟩ : ∃ y_ : List (S108), y_ = (x3_1.set (x4_1 : Int).toNat (⟨t228, (⟨t229, t230, t231, t232, t233, t234, t235⟩ : S77)⟩ : S108)) := ⟨_, rfl⟩
        replace H : (laws_toEffectS.l0 k1 l0 y236 (wrap64 (x4_1 + 1))) = some r := by first | (rw [hy236]; with_reducible exact H) | (have H2_ := (Option.bind_some _ _).symm.trans H; rw [hy236]; with_reducible exact H2_) | (have H2_ := (Option.bind_some _ _).symm.trans H; with_reducible exact H2_) | with_reducible exact H | (rw [hy236]; exact H) | exact H
        have Ny236 := Aside0.mk hy236
        clear hy236
        have H' := Aside0.mk H
        clear H
        have p227 : 0 ≤ (x4_1 : Int) := of_decide_eq_true (by with_reducible assumption)
        have q227 : x4_1 < (l0.length : Int) := of_decide_eq_true (by with_reducible assumption)
        obtain ⟨ad227, e227, hx227_0, hx227_1, hx227_2, hx227_3, hx227_4, hx227_5, hx227_6, hx227_7⟩ := at_T174 (Kd.C_below HR0.out HB.out) x4_1 p227 q227
        cases e227
        replace p227 := eq_true p227
        replace q227 := eq_true q227
        go_wp2_with (first | ((with_reducible refine zr (f := 105) rfl ?_); refine zz (some 20) rfl rfl Tryd.func105 (by kernel_rfl) rfl #[.agg #[.bool ((rd_T174 l0 x4_1).f0), .string ((rd_T174 l0 x4_1).f1.f0), .string ((rd_T174 l0 x4_1).f1.f1), .int .i64 ((rd_T174 l0 x4_1).f1.f2), .int .i64 ((rd_T174 l0 x4_1).f1.f3), .int .i64 ((rd_T174 l0 x4_1).f1.f4), .int .i64 ((rd_T174 l0 x4_1).f1.f5), .int .i64 ((rd_T174 l0 x4_1).f1.f6)]] rfl (by (try simp only [List.map_toArray, List.map_cons, List.map_nil]); first | done | rfl) ?_; (with_reducible refine (laws_toEffect.calls ((rd_T174 l0 x4_1).f0) ((rd_T174 l0 x4_1).f1.f0) ((rd_T174 l0 x4_1).f1.f1) ((rd_T174 l0 x4_1).f1.f2) ((rd_T174 l0 x4_1).f1.f3) ((rd_T174 l0 x4_1).f1.f4) ((rd_T174 l0 x4_1).f1.f5) ((rd_T174 l0 x4_1).f1.f6) t228 t229 t230 t231 t232 t233 t234 t235 _ A8.out).mono ?_); rintro e w11 ⟨rfl, hb⟩; refine ⟨_, rfl, ?_⟩; have n0_ := Aside0.mk (Kd.R_below (RL zA.out) hb); have n1_ := Aside0.mk (zn (by exact bl HB.out) hb); clear zA; clear HB; have zA := n0_; have HB := n1_; clear n0_ n1_; (try clear hb); (try clear hb2); (try clear hk); (try clear hi); have p10 : 0 ≤ (x4_1 : Int) := of_decide_eq_true (by with_reducible assumption); have q10 : (x4_1 : Int) < ((x3_1.length : Int) : Int) := of_decide_eq_true (by with_reducible assumption); obtain ⟨go10, co10, eo10, zC, gl10, cl10, HG10⟩ := Kd.R_form zA.out (by omega); (first | cases eo10 | (injection eo10 with ea_ en_ ec_; (first | subst ea_ | (injection ea_ with ea_; subst ea_)); subst ec_; clear en_)); have GB10 := Aside0.mk zC; have GG10 := Aside0.mk HG10; clear zC gl10 HG10; obtain ⟨ce10, hcl10, hM10, hcc10, hfr10⟩ := Kd.R_elem zA.out z108 (x4_1 : Int) p10 q10; obtain rfl := k108_openM hM10; have hx10_0 : w11.cell? ⟨go10, (x4_1 : Int).toNat * 8, none⟩ = some (.bool ((rd_T108 x3_1 x4_1).f0)) := hcc10 0 _ rfl; have hx10_1 : w11.cell? ⟨go10, (x4_1 : Int).toNat * 8 + 1, none⟩ = some (.string ((rd_T108 x3_1 x4_1).f1.f0)) := hcc10 1 _ rfl; have hx10_2 : w11.cell? ⟨go10, (x4_1 : Int).toNat * 8 + 2, none⟩ = some (.string ((rd_T108 x3_1 x4_1).f1.f1)) := hcc10 2 _ rfl; have hx10_3 : w11.cell? ⟨go10, (x4_1 : Int).toNat * 8 + 3, none⟩ = some (.int .i64 ((rd_T108 x3_1 x4_1).f1.f2)) := hcc10 3 _ rfl; have hx10_4 : w11.cell? ⟨go10, (x4_1 : Int).toNat * 8 + 4, none⟩ = some (.int .i64 ((rd_T108 x3_1 x4_1).f1.f3)) := hcc10 4 _ rfl; have hx10_5 : w11.cell? ⟨go10, (x4_1 : Int).toNat * 8 + 5, none⟩ = some (.int .i64 ((rd_T108 x3_1 x4_1).f1.f4)) := hcc10 5 _ rfl; have hx10_6 : w11.cell? ⟨go10, (x4_1 : Int).toNat * 8 + 6, none⟩ = some (.int .i64 ((rd_T108 x3_1 x4_1).f1.f5)) := hcc10 6 _ rfl; have hx10_7 : w11.cell? ⟨go10, (x4_1 : Int).toNat * 8 + 7, none⟩ = some (.int .i64 ((rd_T108 x3_1 x4_1).f1.f6)) := hcc10 7 _ rfl; have hf10_0 : w11.frozen? ⟨go10, (x4_1 : Int).toNat * 8, none⟩ = false := hfr10 0; have hf10_1 : w11.frozen? ⟨go10, (x4_1 : Int).toNat * 8 + 1, none⟩ = false := hfr10 1; have hf10_2 : w11.frozen? ⟨go10, (x4_1 : Int).toNat * 8 + 2, none⟩ = false := hfr10 2; have hf10_3 : w11.frozen? ⟨go10, (x4_1 : Int).toNat * 8 + 3, none⟩ = false := hfr10 3; have hf10_4 : w11.frozen? ⟨go10, (x4_1 : Int).toNat * 8 + 4, none⟩ = false := hfr10 4; have hf10_5 : w11.frozen? ⟨go10, (x4_1 : Int).toNat * 8 + 5, none⟩ = false := hfr10 5; have hf10_6 : w11.frozen? ⟨go10, (x4_1 : Int).toNat * 8 + 6, none⟩ = false := hfr10 6; have hf10_7 : w11.frozen? ⟨go10, (x4_1 : Int).toNat * 8 + 7, none⟩ = false := hfr10 7; clear hcl10 hcc10 hfr10 hM10; replace p10 := eq_true p10; replace q10 := eq_true q10; have HX12 := Aside0.mk (show Kd.R k108 108 w11 w.heap.size (fun _ => True) (.slice (some ⟨go10, 0, none⟩) x3_1.length co10) x3_1 from (RL zA.out)); obtain ⟨ce12, hcl12, hM12, hcc12, hfr12⟩ := Kd.R_elem HX12.out z108 (x4_1 : Int) (of_decide_eq_true (by with_reducible assumption)) (by have h_ : (x4_1 : Int) < ((x3_1.length : Int) : Int) := of_decide_eq_true (by with_reducible assumption); first | exact h_ | (have e_ := (Kd.R_reads' zA.out).1; omega) | simpa using h_); obtain rfl := k108_openM hM12; have HP12 := Kd.R_seg HX12.out (x4_1 : Int) (of_decide_eq_true (by with_reducible assumption)) (by have h_ : (x4_1 : Int) < ((x3_1.length : Int) : Int) := of_decide_eq_true (by with_reducible assumption); first | exact h_ | (have e_ := (Kd.R_reads' zA.out).1; omega) | simpa using h_) (seg := [.bool t228, .string t229, .string t230, .int .i64 t231, .int .i64 t232, .int .i64 t233, .int .i64 t234, .int .i64 t235]) (j := 0) hcl12 hcc12 (show 8 ≤ 8 from by decide) (x' := (⟨t228, (⟨t229, t230, t231, t232, t233, t234, t235⟩ : S77)⟩ : S108)) (k108_mkM _ _ _ (⟨t228, (⟨t229, t230, t231, t232, t233, t234, t235⟩ : S77)⟩ : S108) ) (fun _ hk => hk); have hx12_0 := hcc12 0 _ rfl; (try simp only [show (k108).sz = 8 from rfl, Nat.mul_one, Nat.add_zero] at hx12_0); have hf12_0 := hfr12 0; (try simp only [show (k108).sz = 8 from rfl, Nat.mul_one, Nat.add_zero] at hf12_0); have hx12_1 := hcc12 1 _ rfl; (try simp only [show (k108).sz = 8 from rfl, Nat.mul_one, Nat.add_zero] at hx12_1); have hf12_1 := hfr12 1; (try simp only [show (k108).sz = 8 from rfl, Nat.mul_one, Nat.add_zero] at hf12_1); have hx12_2 := hcc12 2 _ rfl; (try simp only [show (k108).sz = 8 from rfl, Nat.mul_one, Nat.add_zero] at hx12_2); have hf12_2 := hfr12 2; (try simp only [show (k108).sz = 8 from rfl, Nat.mul_one, Nat.add_zero] at hf12_2); have hx12_3 := hcc12 3 _ rfl; (try simp only [show (k108).sz = 8 from rfl, Nat.mul_one, Nat.add_zero] at hx12_3); have hf12_3 := hfr12 3; (try simp only [show (k108).sz = 8 from rfl, Nat.mul_one, Nat.add_zero] at hf12_3); have hx12_4 := hcc12 4 _ rfl; (try simp only [show (k108).sz = 8 from rfl, Nat.mul_one, Nat.add_zero] at hx12_4); have hf12_4 := hfr12 4; (try simp only [show (k108).sz = 8 from rfl, Nat.mul_one, Nat.add_zero] at hf12_4); have hx12_5 := hcc12 5 _ rfl; (try simp only [show (k108).sz = 8 from rfl, Nat.mul_one, Nat.add_zero] at hx12_5); have hf12_5 := hfr12 5; (try simp only [show (k108).sz = 8 from rfl, Nat.mul_one, Nat.add_zero] at hf12_5); have hx12_6 := hcc12 6 _ rfl; (try simp only [show (k108).sz = 8 from rfl, Nat.mul_one, Nat.add_zero] at hx12_6); have hf12_6 := hfr12 6; (try simp only [show (k108).sz = 8 from rfl, Nat.mul_one, Nat.add_zero] at hf12_6); have hx12_7 := hcc12 7 _ rfl; (try simp only [show (k108).sz = 8 from rfl, Nat.mul_one, Nat.add_zero] at hx12_7); have hf12_7 := hfr12 7; (try simp only [show (k108).sz = 8 from rfl, Nat.mul_one, Nat.add_zero] at hf12_7); clear hcl12 hcc12 hfr12 hM12) | ((with_reducible refine gate_store (t := 108) (p := 21) rfl ?_); refine store_event (t := 108) (p := 21) (v := ?vo_w13) (w1 := ((((((((w11.setCell ⟨go10, (x4_1 : Int).toNat * 8, none⟩ (.bool t228)).setCell ⟨go10, (x4_1 : Int).toNat * 8 + 1, none⟩ (.string t229)).setCell ⟨go10, (x4_1 : Int).toNat * 8 + 2, none⟩ (.string t230)).setCell ⟨go10, (x4_1 : Int).toNat * 8 + 3, none⟩ (.int .i64 t231)).setCell ⟨go10, (x4_1 : Int).toNat * 8 + 4, none⟩ (.int .i64 t232)).setCell ⟨go10, (x4_1 : Int).toNat * 8 + 5, none⟩ (.int .i64 t233)).setCell ⟨go10, (x4_1 : Int).toNat * 8 + 6, none⟩ (.int .i64 t234)).setCell ⟨go10, (x4_1 : Int).toNat * 8 + 7, none⟩ (.int .i64 t235))) ?hg ?ho ?hn ?hr ?_; (case ho => rfl); (case hg => rfl); (case hn => rfl); (case hr => first | (go_simp; done) | (go_simp; rfl)); intro w13 hw; have hg : w11.grownBy w13 (some go10) := (by rw [hw]; exact HP12.2); have hp_ : Kd.R k108 108 w13 w.heap.size (fun _ => True) (.slice (some ⟨go10, 0, none⟩) x3_1.length co10) y236 := (by rw [hw, Ny236.out]; exact HP12.1); clear HP12; have n0_ := Aside0.mk (hp_); have n1_ := Aside0.mk ((by rw [hw]; exact zd (zd (zd (zd (zd (zd (zd (zd (HB.out) GB10.out) GB10.out) GB10.out) GB10.out) GB10.out) GB10.out) GB10.out) GB10.out : Below w.heap.size w w13)); clear zA; clear HB; have zA := n0_; have HB := n1_; clear n0_ n1_; clear hg hw hp_))
        go_roundg k1
        case measure => have := HK1.out; omega
        case rel => exact ⟨(y236), (wrap64 (x4_1 + 1)), (by first | rfl | (simp [*]; done)), H', ⟨by have := HK1.out; omega⟩, ⟨RL zA.out⟩, ⟨by repeat (first | (with_reducible first | exact HB.out | apply zh | apply zf | apply zg) | exact HB.out)⟩⟩
       ·rw [if_neg c9] at H
        exact absurd H (by simp)
      ·rw [if_neg c7] at H
       exact absurd H (by simp)
     ·rw [if_neg c6] at H
      have c6b0 : decide (x4_1 < (l0.length : Int)) = false := decide_eq_false c6
      clear c6
      obtain rfl := Option.some.inj H
      go_wp2
      go_ret
      exact ⟨_, by first | rfl | (simp [*] <;> rfl), RL zA.out, by repeat (first | (with_reducible first | exact HB.out | apply zh | apply zf | apply zg) | exact HB.out)⟩
  ·rw [if_neg c3] at H
   exact absurd H (by simp)
 ·rw [if_neg c2] at H
  exact absurd H (by simp)

def laws_toTxn.f (k : Nat) (a0_0 : Int) (l0_1 : List (S174)) : Option (Int × (List (S108))) := (laws_toEffectS.f k l0_1).bind fun t240 => (some (a0_0, t240))
theorem laws_toTxn.mono : ∀ a0 a1 k, LeO (laws_toTxn.f k a0 a1) (laws_toTxn.f (k + 1) a0 a1) := by
 intro a0 a1 k
 unfold laws_toTxn.f
 repeat' first
   | (with_reducible exact laws_toEffectS.mono _ _)
   | (with_reducible exact LeO.refl _)
   | (with_reducible exact LeO.none _)
   | (with_reducible refine LeO.ite ?_ ?_)
   | (with_reducible refine LeO.bind ?_ (fun _ => ?_))
   | exact laws_toEffectS.mono _ _
   | exact LeO.none _
   | refine LeO.ite ?_ ?_
   | refine LeO.bind ?_ (fun _ => ?_)
set_option maxHeartbeats 8000000 in
set_option maxRecDepth 100000 in
theorem laws_toTxn.calls (k : Nat) (a0_0 : Int) (A0_1 : Option Addr) (c0_1 : Nat) (l0_1 : List (S174)) (r1 : Int) (r2 : List (S108)) (w : World) (hr0_1 : Kd.C k174 w A0_1 l0_1.length l0_1) (hc0_1 : l0_1.length ≤ c0_1) (h : laws_toTxn.f k a0_0 l0_1 = some (r1, r2)) :
  Calls Tryd.prog 20 #[.agg #[.int .i64 a0_0, .slice A0_1 l0_1.length c0_1]] w fun e w' => ∃ v1_ : Value, e = .returned (.agg #[.int .i64 r1, v1_]) ∧ Kd.R k108 108 w' w.heap.size (fun _ => True) v1_ r2 ∧ Below w.heap.size w w' := by
 have hu48 := Tryd.underlying48
 have hu55 := Tryd.underlying55
 have HR0_1 := Aside0.mk hr0_1
 have HC0_1 := Aside0.mk hc0_1
 clear hr0_1 hc0_1
 have HB := Aside0.mk (Below.refl w.heap.size w)
 have H : ((laws_toEffectS.f k l0_1).bind fun t240 => (some (a0_0, t240))) = some (r1, r2) := h
 clear h
 replace H := Option.bind_eq_some_iff.mp H
 obtain ⟨t240, A20, H⟩ := H
 try dsimp only at H
 have A2 := Aside0.mk A20
 clear A20
 simp only [Option.some.injEq, Prod.mk.injEq] at H
 obtain ⟨rfl, rfl⟩ := H
 go_enter Tryd.func20, Tryd.ntmps20
 go_wp2_with (first | ((with_reducible refine zu (N := 1) rfl ?_); refine zy ?hg (N := 1) ?hd (cs := #[.int .i64 a0_0, .slice A0_1 l0_1.length c0_1]) (t := 48) ?hr ?_; (case hd => rfl); (case hg => rfl); (case hr => first | (go_simp; done) | (go_simp; rfl)); intro zB hg w3 hbox hb; have n0_ := Aside0.mk (zn (by exact bl HB.out) hb); have n1_ := Aside0.mk (hbox); have n2_ := Aside0.mk ((by rw [hg]; exact (zm (by exact bl HB.out)) : w.heap.size ≤ zB)); have n3_ := Aside0.mk ((by rw [hg]; exact (zm (by exact bl HB.out)) : w.heap.size ≤ zB)); clear HB; have HB := n0_; have zA := n1_; have GW237 := n2_; have zI := n3_; clear n0_ n1_ n2_ n3_; clear hb hbox hg) | ((with_reducible refine zu (N := 2) rfl ?_); refine zy ?hg (N := 2) ?hd (cs := #[.int .i64 0, .slice none 0 0]) (t := 55) ?hr ?_; (case hd => rfl); (case hg => rfl); (case hr => first | (go_simp; done) | (go_simp; rfl)); intro zC hg w4 hbox hb; have n0_ := Aside0.mk (zi (g := zB) (o := .cells #[.int .i64 a0_0, .slice A0_1 l0_1.length c0_1] 48 (0, 0)) (BL zA.out) hb); have n1_ := Aside0.mk (zn (by exact bl HB.out) hb); have n2_ := Aside0.mk (hbox); have n3_ := Aside0.mk ((by rw [hg]; exact (zm (by exact bl HB.out)) : w.heap.size ≤ zC)); have n4_ := Aside0.mk ((by rw [hg]; exact (zm (by exact bl HB.out)) : w.heap.size ≤ zC)); have n5_ := Aside0.mk ((by rw [hg]; exact Nat.ne_of_lt (zt (g := zB) (o := .cells #[.int .i64 a0_0, .slice A0_1 l0_1.length c0_1] 48 (0, 0)) (BL zA.out)) : zB ≠ zC)); have n6_ := Aside0.mk ((by rw [hg]; exact Nat.ne_of_gt (zt (g := zB) (o := .cells #[.int .i64 a0_0, .slice A0_1 l0_1.length c0_1] 48 (0, 0)) (BL zA.out)) : zC ≠ zB)); clear zA; clear HB; have zA := n0_; have HB := n1_; have zD := n2_; have GW238 := n3_; have zJ := n4_; have zL := n5_; have zM := n6_; clear n0_ n1_ n2_ n3_ n4_ n5_ n6_; clear hb hbox hg) | ((with_reducible refine zu (N := 3) rfl ?_); refine zy ?hg (N := 3) ?hd (cs := #[.int .i64 0, .slice none 0 0]) (t := 55) ?hr ?_; (case hd => rfl); (case hg => rfl); (case hr => first | (go_simp; done) | (go_simp; rfl)); intro zE hg w5 hbox hb; have n0_ := Aside0.mk (zi (g := zB) (o := .cells #[.int .i64 a0_0, .slice A0_1 l0_1.length c0_1] 48 (0, 0)) (BL zA.out) hb); have n1_ := Aside0.mk (zi (g := zC) (o := .cells #[.int .i64 0, .slice none 0 0] 55 (0, 0)) (BL zD.out) hb); have n2_ := Aside0.mk (zn (by exact bl HB.out) hb); have n3_ := Aside0.mk (hbox); have n4_ := Aside0.mk ((by rw [hg]; exact (zm (by exact bl HB.out)) : w.heap.size ≤ zE)); have n5_ := Aside0.mk ((by rw [hg]; exact (zm (by exact bl HB.out)) : w.heap.size ≤ zE)); have n6_ := Aside0.mk ((by rw [hg]; exact Nat.ne_of_lt (zt (g := zB) (o := .cells #[.int .i64 a0_0, .slice A0_1 l0_1.length c0_1] 48 (0, 0)) (BL zA.out)) : zB ≠ zE)); have n7_ := Aside0.mk ((by rw [hg]; exact Nat.ne_of_gt (zt (g := zB) (o := .cells #[.int .i64 a0_0, .slice A0_1 l0_1.length c0_1] 48 (0, 0)) (BL zA.out)) : zE ≠ zB)); have n8_ := Aside0.mk ((by rw [hg]; exact Nat.ne_of_lt (zt (g := zC) (o := .cells #[.int .i64 0, .slice none 0 0] 55 (0, 0)) (BL zD.out)) : zC ≠ zE)); have n9_ := Aside0.mk ((by rw [hg]; exact Nat.ne_of_gt (zt (g := zC) (o := .cells #[.int .i64 0, .slice none 0 0] 55 (0, 0)) (BL zD.out)) : zE ≠ zC)); clear zA; clear zD; clear HB; have zA := n0_; have zD := n1_; have HB := n2_; have zF := n3_; have GW239 := n4_; have zK := n5_; have zH := n6_; have zN := n7_; have zG := n8_; have zO := n9_; clear n0_ n1_ n2_ n3_ n4_ n5_ n6_ n7_ n8_ n9_; clear hb hbox hg; have zhb := zL.out; have zib := zM.out; have zjb := zH.out; have zkb := zN.out; have zdb : w5.cell? ⟨zB, 0, none⟩ = some (.int .i64 a0_0) := (zc zA.out 0).trans rfl; have zeb : w5.cell? ⟨zB, 1, none⟩ = some (.slice A0_1 l0_1.length c0_1) := (zc zA.out 1).trans rfl; have zfb := ze zA.out 0; have zgb := ze zA.out 1; have zlb := zO.out; have zmb := zG.out; have zR : w5.cell? ⟨zE, 0, none⟩ = some (.int .i64 0) := (zc zF.out 0).trans rfl; have zS : w5.cell? ⟨zE, 1, none⟩ = some (.slice none 0 0) := (zc zF.out 1).trans rfl; have zT := ze zF.out 0; have zU := ze zF.out 1) | ((with_reducible refine zr (f := 62) rfl ?_); refine zz (some 9) rfl rfl Tryd.func62 (by kernel_rfl) rfl #[.slice A0_1 l0_1.length c0_1] rfl (by (try simp only [List.map_toArray, List.map_cons, List.map_nil]); first | done | rfl) ?_; (with_reducible refine (laws_toEffectS.calls k _ _ l0_1 t240 _ ?side1 ?side2 A2.out).mono ?_); (case side1 => exact Kd.C_below HR0_1.out (by repeat (first | (with_reducible first | exact HB.out | apply zh | apply zf | apply zg | refine zd ?_ zI.out | refine zd ?_ zJ.out | refine zd ?_ zK.out) | exact HB.out))); (case side2 => exact HC0_1.out); rintro e w11 ⟨v241, rfl, zQ, hb⟩; refine ⟨_, rfl, ?_⟩; have n0_ := Aside0.mk (Kd.R_lower zQ (zm (by repeat (first | (with_reducible first | exact HB.out | apply zh | apply zf | apply zg | refine zd ?_ zI.out | refine zd ?_ zJ.out | refine zd ?_ zK.out) | exact HB.out)))); have n1_ := Aside0.mk (zi (g := zB) (o := .cells #[.int .i64 a0_0, .slice A0_1 l0_1.length c0_1] 48 (0, 0)) (by (with_reducible repeat (first | refine zk ?_ _ | refine zl ?_ | refine zj ?_ _)); refine zw ?_ zH.out _; (with_reducible repeat (first | refine zk ?_ _ | refine zl ?_ | refine zj ?_ _)); exact zA.out) hb); have n2_ := Aside0.mk (zi (g := zC) (o := .cells #[.int .i64 0, .slice none 0 0] 55 (0, 0)) (by (with_reducible repeat (first | refine zk ?_ _ | refine zl ?_ | refine zj ?_ _)); refine zw ?_ zG.out _; (with_reducible repeat (first | refine zk ?_ _ | refine zl ?_ | refine zj ?_ _)); exact zD.out) hb); have n3_ := Aside0.mk (zi (g := zE) (o := .cells #[.int .i64 a0_0, .slice none 0 0] 55 (0, 0)) (by (with_reducible repeat (first | refine zk ?_ _ | refine zl ?_ | refine zj ?_ _)); refine zv (cs := #[.int .i64 0, .slice none 0 0]) ?_ 0 _ rfl; (with_reducible repeat (first | refine zk ?_ _ | refine zl ?_ | refine zj ?_ _)); exact zF.out) hb); have n4_ := Aside0.mk (zn (by repeat (first | (with_reducible first | exact HB.out | apply zh | apply zf | apply zg | refine zd ?_ zI.out | refine zd ?_ zJ.out | refine zd ?_ zK.out) | exact HB.out)) hb); clear zA; clear zD; clear zF; clear HB; have zP := n0_; have zA := n1_; have zD := n2_; have zF := n3_; have HB := n4_; clear n0_ n1_ n2_ n3_ n4_; (try clear hb); (try clear hb2); (try clear hk); (try clear hi); (try clear zQ); obtain ⟨Ao12, co12, eo12⟩ := Kd.R_slice zP.out; subst eo12; have zV : w11.cell? ⟨zE, 0, none⟩ = some (.int .i64 a0_0) := (zc zF.out 0).trans rfl; have zW : w11.cell? ⟨zE, 1, none⟩ = some (.slice none 0 0) := (zc zF.out 1).trans rfl; have zX := ze zF.out 0; have zY := ze zF.out 1; have zZ : w11.cell? ⟨zC, 0, none⟩ = some (.int .i64 0) := (zc zD.out 0).trans rfl; have zab : w11.cell? ⟨zC, 1, none⟩ = some (.slice none 0 0) := (zc zD.out 1).trans rfl; have zbb := ze zD.out 0; have zcb := ze zD.out 1))
 refine bodyPost_ret (results_cell_row rfl _ _ zC 55 #[.int .i64 a0_0, .slice Ao12 t240.length co12] (0, 0) _ rfl (by (with_reducible repeat (first | refine zk ?_ _ | refine zl ?_ | refine zj ?_ _)); refine zv (cs := #[.int .i64 a0_0, .slice none 0 0]) ?_ 1 _ rfl; (with_reducible repeat (first | refine zk ?_ _ | refine zl ?_ | refine zj ?_ _)); refine zv (cs := #[.int .i64 0, .slice none 0 0]) ?_ 0 _ rfl; (with_reducible repeat (first | refine zk ?_ _ | refine zl ?_ | refine zj ?_ _)); refine zw ?_ zG.out _; (with_reducible repeat (first | refine zk ?_ _ | refine zl ?_ | refine zj ?_ _)); exact zD.out) Tryd.underlying55 rfl (by kernel_rfl)) rfl ?_
 exact ⟨_, by first | rfl | (simp [*] <;> rfl), RL (Kd.R_mono (Kd.R_far (p := ⟨zC, 1, none⟩) (Kd.R_far (p := ⟨zC, 0, none⟩) (Kd.R_far (p := ⟨zE, 1, none⟩) (Kd.R_types (Kd.R_types zP.out zF.out (by decide)) zD.out (by decide)) (fun _ hk => hk.1.2) (.slice Ao12 t240.length co12)) (fun _ hk => hk.2) (.int .i64 a0_0)) (fun _ hk => hk.2) (.slice Ao12 t240.length co12)) (fun _ hk => trivial)), by repeat (first | (with_reducible first | exact HB.out | apply zh | apply zf | apply zg | refine zd ?_ zI.out | refine zd ?_ zJ.out | refine zd ?_ zK.out) | exact HB.out)⟩

end Go.Proofs.YtfiojiokmkiflaaDoor.GFnExactApplyTxn
