/- Written by give.py, a program of this session, that runs the kit's print and lays contracts proved by hand beside it. -/
import Derived.Test.YtejecjjimggjeaaDoorGFnExactDecodeTxnx0
import Derived.Test.YtejecjjimggjeaaDoorGFnExactDecodeTxnx1
import Derived.Test.YtejecjjimggjeaaDoorGFnExactDecodeTxnx4
namespace Go.Proofs.YtejecjjimggjeaaDoor.GFnExactDecodeTxn
open Go.RowKit Go.Proofs.YtejecjjimggjeaaDoorW.PrintWords Go.Proofs.YtejecjjimggjeaaDoorW.PrintLast Go.Proofs.YtejecjjimggjeaaDoorW.PrintMore
attribute [local go_sem] max2_int min2_int max_two min_two max_three min_three max_four min_four
attribute [local go_sem high] Go.Proofs.YtejecjjimggjeaaDoorH.str_leq Go.Proofs.YtejecjjimggjeaaDoorH.str_geq Go.Proofs.YtejecjjimggjeaaDoorH.str_gtr   -- for this text's walks alone
set_option linter.unusedVariables false
set_option linter.unusedSimpArgs false

attribute [local go_sem high] eqA53
mutual
def spec_ValidTxn.j0 : Nat → Bool → Int → List (S55) → Option (Bool)
 | 0, _, _, _ => none
 | k + 1, x18, x148000, x148001 => if x18 = true then (some false) else (spec_ValidTxn.l0 k 0 x148000 x148001)
def spec_ValidTxn.l0 : Nat → Int → Int → List (S55) → Option (Bool)
 | 0, _, _, _ => none
 | k + 1, x3, x148000, x148001 => if x3 < (x148001.length : Int) then (if 0 ≤ x3 then ((spec_l3ValidNode.f k ((rd_T55 x148001 x3).f1.f0) ((rd_T55 x148001 x3).f1.f1) ((rd_T55 x148001 x3).f1.f2) ((rd_T55 x148001 x3).f1.f3) ((rd_T55 x148001 x3).f1.f4) ((rd_T55 x148001 x3).f1.f5) ((rd_T55 x148001 x3).f1.f6)).bind fun t150 => (if t150 = true then (if x3 > 0 then (if 0 ≤ (wrap64 (x3 - 1)) then (if (wrap64 (x3 - 1)) < (x148001.length : Int) then (spec_ValidTxn.j2 k x3 (!(Op.bytesLess (((rd_T55 x148001 (wrap64 (x3 - 1))).f1.f0).toList) (((rd_T55 x148001 x3).f1.f0).toList))) x148000 x148001 ((rd_T55 x148001 x3).f0) ((rd_T55 x148001 x3).f1.f0) ((rd_T55 x148001 x3).f1.f1) ((rd_T55 x148001 x3).f1.f2) ((rd_T55 x148001 x3).f1.f3) ((rd_T55 x148001 x3).f1.f4) ((rd_T55 x148001 x3).f1.f5) ((rd_T55 x148001 x3).f1.f6)) else (none)) else (none)) else (spec_ValidTxn.j2 k x3 false x148000 x148001 ((rd_T55 x148001 x3).f0) ((rd_T55 x148001 x3).f1.f0) ((rd_T55 x148001 x3).f1.f1) ((rd_T55 x148001 x3).f1.f2) ((rd_T55 x148001 x3).f1.f3) ((rd_T55 x148001 x3).f1.f4) ((rd_T55 x148001 x3).f1.f5) ((rd_T55 x148001 x3).f1.f6))) else (spec_ValidTxn.j2 k x3 true x148000 x148001 ((rd_T55 x148001 x3).f0) ((rd_T55 x148001 x3).f1.f0) ((rd_T55 x148001 x3).f1.f1) ((rd_T55 x148001 x3).f1.f2) ((rd_T55 x148001 x3).f1.f3) ((rd_T55 x148001 x3).f1.f4) ((rd_T55 x148001 x3).f1.f5) ((rd_T55 x148001 x3).f1.f6)))) else (none)) else (some true)
def spec_ValidTxn.j2 : Nat → Int → Bool → Int → List (S55) → Bool → ByteArray → ByteArray → Int → Int → Int → Int → Int → Option (Bool)
 | 0, _, _, _, _, _, _, _, _, _, _, _, _ => none
 | k + 1, x3, x52, x148000, x148001, x150000, x150001, x150002, x150003, x150004, x150005, x150006, x150007 => if x52 = true then (some false) else (if x150000 = true then (if (!(x150002.toList == ([] : List UInt8)) || (!(x150003 == 0) || (!(x150004 == 0) || (!(x150005 == 0) || (!(x150006 == 0) || (!(x150007 == 0))))))) = true then (some false) else (spec_ValidTxn.l0 k (wrap64 (x3 + 1)) x148000 x148001)) else (spec_ValidTxn.l0 k (wrap64 (x3 + 1)) x148000 x148001))
end
def spec_ValidTxn.f (k : Nat) (a0_0 : Int) (l0_1 : List (S55)) : Option (Bool) := if a0_0 < 1 then (spec_ValidTxn.j0 k true a0_0 l0_1) else (if a0_0 > 2147483647 then (spec_ValidTxn.j0 k true a0_0 l0_1) else (spec_ValidTxn.j0 k (decide ((l0_1.length : Int) > 1000)) a0_0 l0_1))
theorem spec_ValidTxn.mono_l : ∀ k, (∀ y0 y1 y2, LeO (spec_ValidTxn.j0 k y0 y1 y2) (spec_ValidTxn.j0 (k + 1) y0 y1 y2)) ∧ (∀ y0 y1 y2, LeO (spec_ValidTxn.l0 k y0 y1 y2) (spec_ValidTxn.l0 (k + 1) y0 y1 y2)) ∧ (∀ y0 y1 y2 y3 y4 y5 y6 y7 y8 y9 y10 y11, LeO (spec_ValidTxn.j2 k y0 y1 y2 y3 y4 y5 y6 y7 y8 y9 y10 y11) (spec_ValidTxn.j2 (k + 1) y0 y1 y2 y3 y4 y5 y6 y7 y8 y9 y10 y11))
 | 0 => ⟨fun _ _ _ r h => by simp [spec_ValidTxn.j0] at h, fun _ _ _ r h => by simp [spec_ValidTxn.l0] at h, fun _ _ _ _ _ _ _ _ _ _ _ _ r h => by simp [spec_ValidTxn.j2] at h⟩
 | k + 1 => by
  obtain ⟨ih0, ih1, ih2⟩ := spec_ValidTxn.mono_l k
  refine ⟨?_, ?_, ?_⟩
  ·intro y0 y1 y2
   unfold spec_ValidTxn.j0
   repeat' first
   | (with_reducible exact ih0 _ _ _)
   | (with_reducible exact ih1 _ _ _)
   | (with_reducible exact ih2 _ _ _ _ _ _ _ _ _ _ _ _)
   | (with_reducible exact spec_l3ValidNode.mono _ _ _ _ _ _ _ _)
   | (with_reducible exact LeO.refl _)
   | (with_reducible exact LeO.none _)
   | (with_reducible refine LeO.ite ?_ ?_)
   | (with_reducible refine LeO.bind ?_ (fun _ => ?_))
   | exact ih0 _ _ _
   | exact ih1 _ _ _
   | exact ih2 _ _ _ _ _ _ _ _ _ _ _ _
   | exact spec_l3ValidNode.mono _ _ _ _ _ _ _ _
   | exact LeO.none _
   | refine LeO.ite ?_ ?_
   | refine LeO.bind ?_ (fun _ => ?_)
  ·intro y0 y1 y2
   unfold spec_ValidTxn.l0
   repeat' first
   | (with_reducible exact ih0 _ _ _)
   | (with_reducible exact ih1 _ _ _)
   | (with_reducible exact ih2 _ _ _ _ _ _ _ _ _ _ _ _)
   | (with_reducible exact spec_l3ValidNode.mono _ _ _ _ _ _ _ _)
   | (with_reducible exact LeO.refl _)
   | (with_reducible exact LeO.none _)
   | (with_reducible refine LeO.ite ?_ ?_)
   | (with_reducible refine LeO.bind ?_ (fun _ => ?_))
   | exact ih0 _ _ _
   | exact ih1 _ _ _
   | exact ih2 _ _ _ _ _ _ _ _ _ _ _ _
   | exact spec_l3ValidNode.mono _ _ _ _ _ _ _ _
   | exact LeO.none _
   | refine LeO.ite ?_ ?_
   | refine LeO.bind ?_ (fun _ => ?_)
  ·intro y0 y1 y2 y3 y4 y5 y6 y7 y8 y9 y10 y11
   unfold spec_ValidTxn.j2
   repeat' first
   | (with_reducible exact ih0 _ _ _)
   | (with_reducible exact ih1 _ _ _)
   | (with_reducible exact ih2 _ _ _ _ _ _ _ _ _ _ _ _)
   | (with_reducible exact spec_l3ValidNode.mono _ _ _ _ _ _ _ _)
   | (with_reducible exact LeO.refl _)
   | (with_reducible exact LeO.none _)
   | (with_reducible refine LeO.ite ?_ ?_)
   | (with_reducible refine LeO.bind ?_ (fun _ => ?_))
   | exact ih0 _ _ _
   | exact ih1 _ _ _
   | exact ih2 _ _ _ _ _ _ _ _ _ _ _ _
   | exact spec_l3ValidNode.mono _ _ _ _ _ _ _ _
   | exact LeO.none _
   | refine LeO.ite ?_ ?_
   | refine LeO.bind ?_ (fun _ => ?_)
theorem spec_ValidTxn.mono : ∀ a0 a1 k, LeO (spec_ValidTxn.f k a0 a1) (spec_ValidTxn.f (k + 1) a0 a1) := by
 intro a0 a1 k
 obtain ⟨ih0, ih1, ih2⟩ := spec_ValidTxn.mono_l k
 unfold spec_ValidTxn.f
 repeat' first
   | (with_reducible exact ih0 _ _ _)
   | (with_reducible exact ih1 _ _ _)
   | (with_reducible exact ih2 _ _ _ _ _ _ _ _ _ _ _ _)
   | (with_reducible exact spec_l3ValidNode.mono _ _ _ _ _ _ _ _)
   | (with_reducible exact LeO.refl _)
   | (with_reducible exact LeO.none _)
   | (with_reducible refine LeO.ite ?_ ?_)
   | (with_reducible refine LeO.bind ?_ (fun _ => ?_))
   | exact ih0 _ _ _
   | exact ih1 _ _ _
   | exact ih2 _ _ _ _ _ _ _ _ _ _ _ _
   | exact spec_l3ValidNode.mono _ _ _ _ _ _ _ _
   | exact LeO.none _
   | refine LeO.ite ?_ ?_
   | refine LeO.bind ?_ (fun _ => ?_)
def spec_ValidTxn.T7 : Bool × List (List Nat × List Nat) := (true, [([], []), ([0], [0]), ([1], [1]), ([2], [2]), ([3, 2], [3]), ([4], [4]), ([5, 4], [4, 5]), ([6, 4, 4], [4, 6]), ([7], [7]), ([8, 7], [7, 8]), ([9, 7], [7, 9]), ([7], [7]), ([11, 7], [7, 11]), ([7], [7]), ([13, 7], [7, 13]), ([12, 14, 7], [7, 12, 14]), ([15, 7], [7, 15]), ([16, 7], [7, 16]), ([17, 7], [7, 17]), ([10, 18, 7], [7, 10, 18]), ([7, 19, 4], [4, 7, 19]), ([4, 20], [4, 20])])
def spec_ValidTxn.B7 : List Nat := [0, 1, 3, 7, 15, 31, 63, 127, 255, 511, 1023, 255, 2303, 255, 8447, 30975, 63743, 129279, 260351, 524287, 1048575, 2097151]
theorem spec_ValidTxn.tab7 : rtab .any (opsOf Tryd.f29 7) = spec_ValidTxn.T7 := by kernel_rfl
theorem spec_ValidTxn.bits7 : waitsOk spec_ValidTxn.T7.2 spec_ValidTxn.B7 = true := by kernel_rfl
set_option maxHeartbeats 8000000 in
set_option maxRecDepth 100000 in
theorem spec_ValidTxn.calls (k : Nat) (a0_0 : Int) (A0_1 : Option Addr) (c0_1 : Nat) (l0_1 : List (S55)) (r : Bool) (w : World) (hr0_1 : Kd.C k55 w A0_1 l0_1.length l0_1) (hc0_1 : l0_1.length ≤ c0_1) (h : spec_ValidTxn.f k a0_0 l0_1 = some r) :
  Calls Tryd.prog 29 #[.agg #[.int .i64 a0_0, .slice A0_1 l0_1.length c0_1]] w fun e w' => e = .returned (.bool r) ∧ Below w.heap.size w w' := by
 have hu25 := Tryd.underlying25
 have hu55 := Tryd.underlying55
 have hu53 := Tryd.underlying53
 have HR0_1 := Aside0.mk hr0_1
 have HC0_1 := Aside0.mk hc0_1
 clear hr0_1 hc0_1
 have HB := Aside0.mk (Below.refl w.heap.size w)
 have H : (if a0_0 < 1 then (spec_ValidTxn.j0 k true a0_0 l0_1) else (if a0_0 > 2147483647 then (spec_ValidTxn.j0 k true a0_0 l0_1) else (spec_ValidTxn.j0 k (decide ((l0_1.length : Int) > 1000)) a0_0 l0_1))) = some r := h
 clear h
 have HC2 := Aside0.mk H
 clear H
 go_enter Tryd.func29, Tryd.ntmps29
 go_upto_region 1 with (first | ((with_reducible refine zw (N := 1) rfl ?_); (try (refine gate_guard (by rfl) ?_; dsimp only)); refine zx ?hg (N := 1) ?hd (cs := #[.int .i64 a0_0, .slice A0_1 l0_1.length c0_1]) (t := 25) ?hr ?_; (case hd => rfl); (case hg => rfl); (case hr => first | (go_simp; done) | (go_simp; rfl)); intro zE hg w3 hbox hb; have n0_ := Aside0.mk (zm (by repeat (first | (with_reducible first | exact HB.out | apply zf | apply zc | apply ze) | exact HB.out)) hb); have n1_ := Aside0.mk (hbox); have n2_ := Aside0.mk ((by rw [hg]; exact (zl (by repeat (first | (with_reducible first | exact HB.out | apply zf | apply zc | apply ze) | exact HB.out))) : w.heap.size ≤ zE)); have n3_ := Aside0.mk ((by rw [hg]; exact (zl (by repeat (first | (with_reducible first | exact HB.out | apply zf | apply zc | apply ze) | exact HB.out))) : w.heap.size ≤ zE)); clear HB; have HB := n0_; have zC := n1_; have GW147 := n2_; have zF := n3_; clear n0_ n1_ n2_ n3_; clear hb hbox hg))
 (try simp only [Act.put, List.setIfInBounds_toArray, List.set_cons_zero, List.set_cons_succ])
 go_cut [18] (fun v18 wc => ∃ (kq : Nat) (x18_1 : Bool), v18 = .bool x18_1 ∧ Aside0 (spec_ValidTxn.j0 kq x18_1 a0_0 l0_1 = some r) ∧ Aside0 (kq ≤ k) ∧ Aside0 (wc.heap[zE]? = some (.cells #[.int .i64 a0_0, (.slice A0_1 l0_1.length c0_1)] 25 (0, 0))) ∧ Aside0 (Below w.heap.size w wc))
 case first =>
  have H := HC2.out
  clear HC2
  by_cases c4 : a0_0 < 1
  ·rw [if_pos c4] at H
   have c4b0 : decide (a0_0 < 1) = true := decide_eq_true c4
   clear c4
   (first | rw [c4b0] | (simp only [zp, zr]; rw [c4b0]) | skip)
   have H' := Aside0.mk H
   clear H
   have zI : w3.cell? ⟨zE, 0, none⟩ = some (.int .i64 a0_0) := (zi zC.out 0).trans rfl
   have zJ : w3.cell? ⟨zE, 1, none⟩ = some (.slice A0_1 l0_1.length c0_1) := (zi zC.out 1).trans rfl
   have zK := zd zC.out 0
   have zL := zd zC.out 1
   go_wp2
   go_meet
   case rel => exact ⟨_, (true), (by first | rfl | (simp; done) | (simp [*]; done)), H', ⟨by first | omega | exact Nat.le_refl _⟩, ⟨by (with_reducible repeat (first | refine zh ?_ _ | refine zj ?_ | refine zg ?_ _)); exact zC.out⟩, ⟨by repeat (first | (with_reducible first | exact HB.out | apply zf | apply zc | apply ze | refine zk ?_ zF.out) | exact HB.out)⟩⟩
  ·rw [if_neg c4] at H
   have c4b0 : decide (a0_0 < 1) = false := decide_eq_false c4
   clear c4
   (first | rw [c4b0] | (simp only [zp, zr]; rw [c4b0]) | skip)
   by_cases c6 : a0_0 > 2147483647
   ·rw [if_pos c6] at H
    have c6b0 : decide (2147483647 < a0_0) = true := decide_eq_true c6
    clear c6
    have H' := Aside0.mk H
    clear H
    have zM : w3.cell? ⟨zE, 0, none⟩ = some (.int .i64 a0_0) := (zi zC.out 0).trans rfl
    have zN : w3.cell? ⟨zE, 1, none⟩ = some (.slice A0_1 l0_1.length c0_1) := (zi zC.out 1).trans rfl
    have zO := zd zC.out 0
    have zP := zd zC.out 1
    go_wp2
    go_meet
    case rel => exact ⟨_, (true), (by first | rfl | (simp; done) | (simp [*]; done)), H', ⟨by first | omega | exact Nat.le_refl _⟩, ⟨by (with_reducible repeat (first | refine zh ?_ _ | refine zj ?_ | refine zg ?_ _)); exact zC.out⟩, ⟨by repeat (first | (with_reducible first | exact HB.out | apply zf | apply zc | apply ze | refine zk ?_ zF.out) | exact HB.out)⟩⟩
   ·rw [if_neg c6] at H
    have c6b0 : decide (2147483647 < a0_0) = false := decide_eq_false c6
    clear c6
    have H' := Aside0.mk H
    clear H
    have zQ : w3.cell? ⟨zE, 0, none⟩ = some (.int .i64 a0_0) := (zi zC.out 0).trans rfl
    have zR : w3.cell? ⟨zE, 1, none⟩ = some (.slice A0_1 l0_1.length c0_1) := (zi zC.out 1).trans rfl
    have zS := zd zC.out 0
    have zT := zd zC.out 1
    go_wp2
    go_meet
    case rel => exact ⟨_, (decide ((l0_1.length : Int) > 1000)), (by first | rfl | (simp; done) | (simp [*]; done)), H', ⟨by first | omega | exact Nat.le_refl _⟩, ⟨by (with_reducible repeat (first | refine zh ?_ _ | refine zj ?_ | refine zg ?_ _)); exact zC.out⟩, ⟨by repeat (first | (with_reducible first | exact HB.out | apply zf | apply zc | apply ze | refine zk ?_ zF.out) | exact HB.out)⟩⟩
 case rest =>
  clear HC2
  try clear c2
  try clear p2
  try clear c4
  try clear c4b0
  try clear c6
  try clear c6b0
  try clear zI
  try clear zJ
  try clear zM
  try clear zN
  try clear zQ
  try clear zR
  try clear zK
  try clear zL
  try clear zO
  try clear zP
  try clear zS
  try clear zT
  obtain ⟨kq, x18_1, rfl, HA, HJ1, zC, HB⟩ := hcut
  cases kq with
  | zero => exact absurd HA.out (by simp [spec_ValidTxn.j0])
  | succ kj1 =>
   have H := HA.out
   clear HA
   simp only [spec_ValidTxn.j0] at H
   by_cases c9 : x18_1 = true
   ·subst c9
    have H1 : (some false) = some r := by rw [if_pos rfl] at H; exact H
    clear H
    have H := H1
    clear H1
    obtain rfl := Option.some.inj H
    go_wp2
    go_ret
    exact ⟨by first | rfl | (simp [errW_none, errW_some] <;> rfl) | (simp [*, errW_none, errW_some] <;> rfl), by repeat (first | (with_reducible first | exact HB.out | apply zf | apply zc | apply ze | refine zk ?_ zF.out) | exact HB.out)⟩
   ·replace c9 := Bool.eq_false_iff.mpr c9
    subst c9
    have H1 : (spec_ValidTxn.l0 kj1 0 a0_0 l0_1) = some r := by rw [if_neg (show ¬ (false = true) by decide)] at H; exact H
    clear H
    have H := H1
    clear H1
    have H' := Aside0.mk H
    clear H
    go_wp2
    go_loopg [3] kj1 (fun kq v3 w' => ∃ (x3_2 : Int), v3 = .int .i64 x3_2 ∧ Aside0 (spec_ValidTxn.l0 kq x3_2 a0_0 l0_1 = some r) ∧ Aside0 (kq ≤ kj1) ∧ Aside0 (w'.heap[zE]? = some (.cells #[.int .i64 a0_0, (.slice A0_1 l0_1.length c0_1)] 25 (0, 0))) ∧ Aside0 (Below w.heap.size w w'))
    case atStart => exact ⟨(0), (by first | rfl | (simp; done) | (simp [*]; done)), H', ⟨Nat.le_refl _⟩, ⟨by (with_reducible repeat (first | refine zh ?_ _ | refine zj ?_ | refine zg ?_ _)); exact zC.out⟩, ⟨by repeat (first | (with_reducible first | exact HB.out | apply zf | apply zc | apply ze | refine zk ?_ zF.out) | exact HB.out)⟩⟩
    case round =>
     clear H'
     try clear c2
     try clear p2
     try clear c4
     try clear c4b0
     try clear c6
     try clear c6b0
     try clear c9
     try clear zI
     try clear zJ
     try clear zM
     try clear zN
     try clear zQ
     try clear zR
     try clear zK
     try clear zL
     try clear zO
     try clear zP
     try clear zS
     try clear zT
     try clear p2
     obtain ⟨x3_2, rfl, HA, HK2, zC, HB⟩ := hrel
     cases gk with
     | zero => exact absurd HA.out (by simp [spec_ValidTxn.l0])
     | succ k2 =>
      have H := HA.out
      clear HA
      simp only [spec_ValidTxn.l0] at H
      by_cases c10 : x3_2 < (l0_1.length : Int)
      ·rw [if_pos c10] at H
       have c10b0 : decide (x3_2 < (l0_1.length : Int)) = true := decide_eq_true c10
       clear c10
       by_cases c11 : 0 ≤ x3_2
       ·rw [if_pos c11] at H
        have c11b0 : decide (0 ≤ x3_2) = true := decide_eq_true c11
        clear c11
        have HC12 := Aside0.mk H
        clear H
        have zU : wr.cell? ⟨zE, 0, none⟩ = some (.int .i64 a0_0) := (zi zC.out 0).trans rfl
        have zV : wr.cell? ⟨zE, 1, none⟩ = some (.slice A0_1 l0_1.length c0_1) := (zi zC.out 1).trans rfl
        have zW := zd zC.out 0
        have zX := zd zC.out 1
        have p148 : 0 ≤ (x3_2 : Int) := of_decide_eq_true (by first | (with_reducible assumption) | assumption)
        have q148 : x3_2 < (l0_1.length : Int) := of_decide_eq_true (by first | (with_reducible assumption) | assumption)
        obtain ⟨ad148, e148, hx148_0, hx148_1, hx148_2, hx148_3, hx148_4, hx148_5, hx148_6, hx148_7⟩ := at_T55 HR0_1.out x3_2 p148 q148
        cases e148
        replace hx148_0 := zb HB.out hx148_0
        replace hx148_1 := zb HB.out hx148_1
        replace hx148_2 := zb HB.out hx148_2
        replace hx148_3 := zb HB.out hx148_3
        replace hx148_4 := zb HB.out hx148_4
        replace hx148_5 := zb HB.out hx148_5
        replace hx148_6 := zb HB.out hx148_6
        replace hx148_7 := zb HB.out hx148_7
        replace p148 := eq_true p148
        replace q148 := eq_true q148
        go_upto_region 7 with (first | ((with_reducible refine zw (N := 4) rfl ?_); (try (refine gate_guard (by rfl) ?_; dsimp only)); refine zx ?hg (N := 4) ?hd (cs := #[.bool false, .string (⟨#[]⟩ : ByteArray), .string (⟨#[]⟩ : ByteArray), .int .i64 0, .int .i64 0, .int .i64 0, .int .i64 0, .int .i64 0]) (t := 55) ?hr ?_; (case hd => rfl); (case hg => rfl); (case hr => first | (go_simp; done) | (go_simp; rfl)); intro zA hg w14 hbox hb; have n0_ := Aside0.mk (zt (g := zE) (o := .cells #[.int .i64 a0_0, .slice (some ad148) l0_1.length c0_1] 25 (0, 0)) (by (with_reducible repeat (first | refine zh ?_ _ | refine zj ?_ | refine zg ?_ _)); exact zC.out) hb); have n1_ := Aside0.mk (zm (by repeat (first | (with_reducible first | exact HB.out | apply zf | apply zc | apply ze | refine zk ?_ zF.out) | exact HB.out)) hb); have n2_ := Aside0.mk (hbox); have n3_ := Aside0.mk ((by rw [hg]; exact (zl (by repeat (first | (with_reducible first | exact HB.out | apply zf | apply zc | apply ze | refine zk ?_ zF.out) | exact HB.out))) : w.heap.size ≤ zA)); have n4_ := Aside0.mk ((by rw [hg]; exact (zl (by repeat (first | (with_reducible first | exact HB.out | apply zf | apply zc | apply ze | refine zk ?_ zF.out) | exact HB.out))) : w.heap.size ≤ zA)); have n5_ := Aside0.mk ((by rw [hg]; exact Nat.ne_of_lt (zy (g := zE) (o := .cells #[.int .i64 a0_0, .slice (some ad148) l0_1.length c0_1] 25 (0, 0)) (by (with_reducible repeat (first | refine zh ?_ _ | refine zj ?_ | refine zg ?_ _)); exact zC.out)) : zE ≠ zA)); have n6_ := Aside0.mk ((by rw [hg]; exact Nat.ne_of_gt (zy (g := zE) (o := .cells #[.int .i64 a0_0, .slice (some ad148) l0_1.length c0_1] 25 (0, 0)) (by (with_reducible repeat (first | refine zh ?_ _ | refine zj ?_ | refine zg ?_ _)); exact zC.out)) : zA ≠ zE)); clear zC; clear HB; have zC := n0_; have HB := n1_; have zB := n2_; have GW149 := n3_; have zG := n4_; have zD := n5_; have zH := n6_; clear n0_ n1_ n2_ n3_ n4_ n5_ n6_; clear hb hbox hg; have zoc := zH.out; have zpc := zD.out; have zY : w14.cell? ⟨zA, 0, none⟩ = some (.bool false) := (zi zB.out 0).trans rfl; have zZ : w14.cell? ⟨zA, 1, none⟩ = some (.string (⟨#[]⟩ : ByteArray)) := (zi zB.out 1).trans rfl; have zab : w14.cell? ⟨zA, 2, none⟩ = some (.string (⟨#[]⟩ : ByteArray)) := (zi zB.out 2).trans rfl; have zbb : w14.cell? ⟨zA, 3, none⟩ = some (.int .i64 0) := (zi zB.out 3).trans rfl; have zcb : w14.cell? ⟨zA, 4, none⟩ = some (.int .i64 0) := (zi zB.out 4).trans rfl; have zdb : w14.cell? ⟨zA, 5, none⟩ = some (.int .i64 0) := (zi zB.out 5).trans rfl; have zeb : w14.cell? ⟨zA, 6, none⟩ = some (.int .i64 0) := (zi zB.out 6).trans rfl; have zfb : w14.cell? ⟨zA, 7, none⟩ = some (.int .i64 0) := (zi zB.out 7).trans rfl; have zgb := zd zB.out 0; have zhb := zd zB.out 1; have zib := zd zB.out 2; have zjb := zd zB.out 3; have zkb := zd zB.out 4; have zlb := zd zB.out 5; have zmb := zd zB.out 6; have znb := zd zB.out 7))
        (try simp only [Act.put, List.setIfInBounds_toArray, List.set_cons_zero, List.set_cons_succ])
        go_cut [52] (fun v52 wc => ∃ (kq : Nat) (x52_11 : Bool), v52 = .bool x52_11 ∧ Aside0 (spec_ValidTxn.j2 kq x3_2 x52_11 a0_0 l0_1 ((rd_T55 l0_1 x3_2).f0) ((rd_T55 l0_1 x3_2).f1.f0) ((rd_T55 l0_1 x3_2).f1.f1) ((rd_T55 l0_1 x3_2).f1.f2) ((rd_T55 l0_1 x3_2).f1.f3) ((rd_T55 l0_1 x3_2).f1.f4) ((rd_T55 l0_1 x3_2).f1.f5) ((rd_T55 l0_1 x3_2).f1.f6) = some r) ∧ Aside0 (kq ≤ k2) ∧ Aside0 (wc.heap[zE]? = some (.cells #[.int .i64 a0_0, (.slice (some ad148) l0_1.length c0_1)] 25 (0, 0))) ∧ Aside0 (wc.heap[zA]? = some (.cells #[.bool ((rd_T55 l0_1 x3_2).f0), .string ((rd_T55 l0_1 x3_2).f1.f0), .string ((rd_T55 l0_1 x3_2).f1.f1), .int .i64 ((rd_T55 l0_1 x3_2).f1.f2), .int .i64 ((rd_T55 l0_1 x3_2).f1.f3), .int .i64 ((rd_T55 l0_1 x3_2).f1.f4), .int .i64 ((rd_T55 l0_1 x3_2).f1.f5), .int .i64 ((rd_T55 l0_1 x3_2).f1.f6)] 55 (0, 0))) ∧ Aside0 (Below w.heap.size w wc))
        case first =>
         have H := HC12.out
         clear HC12
         replace H := Option.bind_eq_some_iff.mp H
         obtain ⟨t150, A170, H⟩ := H
         replace H : (if t150 = true then (if x3_2 > 0 then (if 0 ≤ (wrap64 (x3_2 - 1)) then (if (wrap64 (x3_2 - 1)) < (l0_1.length : Int) then (spec_ValidTxn.j2 k2 x3_2 (!(Op.bytesLess (((rd_T55 l0_1 (wrap64 (x3_2 - 1))).f1.f0).toList) (((rd_T55 l0_1 x3_2).f1.f0).toList))) a0_0 l0_1 ((rd_T55 l0_1 x3_2).f0) ((rd_T55 l0_1 x3_2).f1.f0) ((rd_T55 l0_1 x3_2).f1.f1) ((rd_T55 l0_1 x3_2).f1.f2) ((rd_T55 l0_1 x3_2).f1.f3) ((rd_T55 l0_1 x3_2).f1.f4) ((rd_T55 l0_1 x3_2).f1.f5) ((rd_T55 l0_1 x3_2).f1.f6)) else (none)) else (none)) else (spec_ValidTxn.j2 k2 x3_2 false a0_0 l0_1 ((rd_T55 l0_1 x3_2).f0) ((rd_T55 l0_1 x3_2).f1.f0) ((rd_T55 l0_1 x3_2).f1.f1) ((rd_T55 l0_1 x3_2).f1.f2) ((rd_T55 l0_1 x3_2).f1.f3) ((rd_T55 l0_1 x3_2).f1.f4) ((rd_T55 l0_1 x3_2).f1.f5) ((rd_T55 l0_1 x3_2).f1.f6))) else (spec_ValidTxn.j2 k2 x3_2 true a0_0 l0_1 ((rd_T55 l0_1 x3_2).f0) ((rd_T55 l0_1 x3_2).f1.f0) ((rd_T55 l0_1 x3_2).f1.f1) ((rd_T55 l0_1 x3_2).f1.f2) ((rd_T55 l0_1 x3_2).f1.f3) ((rd_T55 l0_1 x3_2).f1.f4) ((rd_T55 l0_1 x3_2).f1.f5) ((rd_T55 l0_1 x3_2).f1.f6))) = some r := H
         have A17 := Aside0.mk A170
         clear A170
         by_cases c18 : t150 = true
         ·subst c18
          have H1 : (if x3_2 > 0 then (if 0 ≤ (wrap64 (x3_2 - 1)) then (if (wrap64 (x3_2 - 1)) < (l0_1.length : Int) then (spec_ValidTxn.j2 k2 x3_2 (!(Op.bytesLess (((rd_T55 l0_1 (wrap64 (x3_2 - 1))).f1.f0).toList) (((rd_T55 l0_1 x3_2).f1.f0).toList))) a0_0 l0_1 ((rd_T55 l0_1 x3_2).f0) ((rd_T55 l0_1 x3_2).f1.f0) ((rd_T55 l0_1 x3_2).f1.f1) ((rd_T55 l0_1 x3_2).f1.f2) ((rd_T55 l0_1 x3_2).f1.f3) ((rd_T55 l0_1 x3_2).f1.f4) ((rd_T55 l0_1 x3_2).f1.f5) ((rd_T55 l0_1 x3_2).f1.f6)) else (none)) else (none)) else (spec_ValidTxn.j2 k2 x3_2 false a0_0 l0_1 ((rd_T55 l0_1 x3_2).f0) ((rd_T55 l0_1 x3_2).f1.f0) ((rd_T55 l0_1 x3_2).f1.f1) ((rd_T55 l0_1 x3_2).f1.f2) ((rd_T55 l0_1 x3_2).f1.f3) ((rd_T55 l0_1 x3_2).f1.f4) ((rd_T55 l0_1 x3_2).f1.f5) ((rd_T55 l0_1 x3_2).f1.f6))) = some r := by rw [if_pos rfl] at H; exact H
          clear H
          have H := H1
          clear H1
          by_cases c19 : x3_2 > 0
          ·rw [if_pos c19] at H
           have c19b0 : decide (0 < x3_2) = true := decide_eq_true c19
           clear c19
           (first | rw [c19b0] | (simp only [zp, zr]; rw [c19b0]) | skip)
           obtain ⟨ji20, hji20⟩ : ∃ j_ : Int, (wrap64 (x3_2 - 1)) = j_ := ⟨_, rfl⟩
           replace H : (if 0 ≤ (ji20) then (if (ji20) < (l0_1.length : Int) then (spec_ValidTxn.j2 k2 x3_2 (!(Op.bytesLess (((rd_T55 l0_1 (ji20)).f1.f0).toList) (((rd_T55 l0_1 x3_2).f1.f0).toList))) a0_0 l0_1 ((rd_T55 l0_1 x3_2).f0) ((rd_T55 l0_1 x3_2).f1.f0) ((rd_T55 l0_1 x3_2).f1.f1) ((rd_T55 l0_1 x3_2).f1.f2) ((rd_T55 l0_1 x3_2).f1.f3) ((rd_T55 l0_1 x3_2).f1.f4) ((rd_T55 l0_1 x3_2).f1.f5) ((rd_T55 l0_1 x3_2).f1.f6)) else (none)) else (none)) = some r := by first | (rw [hji20] at H; exact H) | (simp only [hji20] at H ⊢; exact H)
           (try rw [hji20] at A17)
           have hji20w : (IntKind.i64.wrap (x3_2 - 1)) = ji20 := (zp _).trans hji20
           by_cases c21 : 0 ≤ (ji20)
           ·rw [if_pos c21] at H
            have c21b0 : decide (0 ≤ (ji20)) = true := decide_eq_true c21
            clear c21
            by_cases c22 : (ji20) < (l0_1.length : Int)
            ·rw [if_pos c22] at H
             have c22b0 : decide ((ji20) < (l0_1.length : Int)) = true := decide_eq_true c22
             clear c22
             have H' := Aside0.mk H
             clear H
             try go_wp2
             have n0_ : Aside0 (((((((((w14.setCell ⟨zA, 0, none⟩ (.bool ((rd_T55 l0_1 x3_2).f0))).setCell ⟨zA, 1, none⟩ (.string ((rd_T55 l0_1 x3_2).f1.f0))).setCell ⟨zA, 2, none⟩ (.string ((rd_T55 l0_1 x3_2).f1.f1))).setCell ⟨zA, 3, none⟩ (.int .i64 ((rd_T55 l0_1 x3_2).f1.f2))).setCell ⟨zA, 4, none⟩ (.int .i64 ((rd_T55 l0_1 x3_2).f1.f3))).setCell ⟨zA, 5, none⟩ (.int .i64 ((rd_T55 l0_1 x3_2).f1.f4))).setCell ⟨zA, 6, none⟩ (.int .i64 ((rd_T55 l0_1 x3_2).f1.f5))).setCell ⟨zA, 7, none⟩ (.int .i64 ((rd_T55 l0_1 x3_2).f1.f6))).heap[zE]? = some (.cells #[.int .i64 a0_0, .slice (some ad148) l0_1.length c0_1] 25 (0, 0))) := ⟨by (with_reducible repeat (first | refine zh ?_ _ | refine zj ?_ | refine zg ?_ _)); refine zo ?_ zD.out _; (with_reducible repeat (first | refine zh ?_ _ | refine zj ?_ | refine zg ?_ _)); refine zo ?_ zD.out _; (with_reducible repeat (first | refine zh ?_ _ | refine zj ?_ | refine zg ?_ _)); refine zo ?_ zD.out _; (with_reducible repeat (first | refine zh ?_ _ | refine zj ?_ | refine zg ?_ _)); refine zo ?_ zD.out _; (with_reducible repeat (first | refine zh ?_ _ | refine zj ?_ | refine zg ?_ _)); refine zo ?_ zD.out _; (with_reducible repeat (first | refine zh ?_ _ | refine zj ?_ | refine zg ?_ _)); refine zo ?_ zD.out _; (with_reducible repeat (first | refine zh ?_ _ | refine zj ?_ | refine zg ?_ _)); refine zo ?_ zD.out _; (with_reducible repeat (first | refine zh ?_ _ | refine zj ?_ | refine zg ?_ _)); refine zo ?_ zD.out _; (with_reducible repeat (first | refine zh ?_ _ | refine zj ?_ | refine zg ?_ _)); exact zC.out⟩
             have n1_ : Aside0 (((((((((w14.setCell ⟨zA, 0, none⟩ (.bool ((rd_T55 l0_1 x3_2).f0))).setCell ⟨zA, 1, none⟩ (.string ((rd_T55 l0_1 x3_2).f1.f0))).setCell ⟨zA, 2, none⟩ (.string ((rd_T55 l0_1 x3_2).f1.f1))).setCell ⟨zA, 3, none⟩ (.int .i64 ((rd_T55 l0_1 x3_2).f1.f2))).setCell ⟨zA, 4, none⟩ (.int .i64 ((rd_T55 l0_1 x3_2).f1.f3))).setCell ⟨zA, 5, none⟩ (.int .i64 ((rd_T55 l0_1 x3_2).f1.f4))).setCell ⟨zA, 6, none⟩ (.int .i64 ((rd_T55 l0_1 x3_2).f1.f5))).setCell ⟨zA, 7, none⟩ (.int .i64 ((rd_T55 l0_1 x3_2).f1.f6))).heap[zA]? = some (.cells #[.bool ((rd_T55 l0_1 x3_2).f0), .string ((rd_T55 l0_1 x3_2).f1.f0), .string ((rd_T55 l0_1 x3_2).f1.f1), .int .i64 ((rd_T55 l0_1 x3_2).f1.f2), .int .i64 ((rd_T55 l0_1 x3_2).f1.f3), .int .i64 ((rd_T55 l0_1 x3_2).f1.f4), .int .i64 ((rd_T55 l0_1 x3_2).f1.f5), .int .i64 ((rd_T55 l0_1 x3_2).f1.f6)] 55 (0, 0))) := ⟨by (with_reducible repeat (first | refine zh ?_ _ | refine zj ?_ | refine zg ?_ _)); refine zq (cs := #[.bool ((rd_T55 l0_1 x3_2).f0), .string ((rd_T55 l0_1 x3_2).f1.f0), .string ((rd_T55 l0_1 x3_2).f1.f1), .int .i64 ((rd_T55 l0_1 x3_2).f1.f2), .int .i64 ((rd_T55 l0_1 x3_2).f1.f3), .int .i64 ((rd_T55 l0_1 x3_2).f1.f4), .int .i64 ((rd_T55 l0_1 x3_2).f1.f5), .int .i64 0]) ?_ 7 _ rfl; (with_reducible repeat (first | refine zh ?_ _ | refine zj ?_ | refine zg ?_ _)); refine zq (cs := #[.bool ((rd_T55 l0_1 x3_2).f0), .string ((rd_T55 l0_1 x3_2).f1.f0), .string ((rd_T55 l0_1 x3_2).f1.f1), .int .i64 ((rd_T55 l0_1 x3_2).f1.f2), .int .i64 ((rd_T55 l0_1 x3_2).f1.f3), .int .i64 ((rd_T55 l0_1 x3_2).f1.f4), .int .i64 0, .int .i64 0]) ?_ 6 _ rfl; (with_reducible repeat (first | refine zh ?_ _ | refine zj ?_ | refine zg ?_ _)); refine zq (cs := #[.bool ((rd_T55 l0_1 x3_2).f0), .string ((rd_T55 l0_1 x3_2).f1.f0), .string ((rd_T55 l0_1 x3_2).f1.f1), .int .i64 ((rd_T55 l0_1 x3_2).f1.f2), .int .i64 ((rd_T55 l0_1 x3_2).f1.f3), .int .i64 0, .int .i64 0, .int .i64 0]) ?_ 5 _ rfl; (with_reducible repeat (first | refine zh ?_ _ | refine zj ?_ | refine zg ?_ _)); refine zq (cs := #[.bool ((rd_T55 l0_1 x3_2).f0), .string ((rd_T55 l0_1 x3_2).f1.f0), .string ((rd_T55 l0_1 x3_2).f1.f1), .int .i64 ((rd_T55 l0_1 x3_2).f1.f2), .int .i64 0, .int .i64 0, .int .i64 0, .int .i64 0]) ?_ 4 _ rfl; (with_reducible repeat (first | refine zh ?_ _ | refine zj ?_ | refine zg ?_ _)); refine zq (cs := #[.bool ((rd_T55 l0_1 x3_2).f0), .string ((rd_T55 l0_1 x3_2).f1.f0), .string ((rd_T55 l0_1 x3_2).f1.f1), .int .i64 0, .int .i64 0, .int .i64 0, .int .i64 0, .int .i64 0]) ?_ 3 _ rfl; (with_reducible repeat (first | refine zh ?_ _ | refine zj ?_ | refine zg ?_ _)); refine zq (cs := #[.bool ((rd_T55 l0_1 x3_2).f0), .string ((rd_T55 l0_1 x3_2).f1.f0), .string (⟨#[]⟩ : ByteArray), .int .i64 0, .int .i64 0, .int .i64 0, .int .i64 0, .int .i64 0]) ?_ 2 _ rfl; (with_reducible repeat (first | refine zh ?_ _ | refine zj ?_ | refine zg ?_ _)); refine zq (cs := #[.bool ((rd_T55 l0_1 x3_2).f0), .string (⟨#[]⟩ : ByteArray), .string (⟨#[]⟩ : ByteArray), .int .i64 0, .int .i64 0, .int .i64 0, .int .i64 0, .int .i64 0]) ?_ 1 _ rfl; (with_reducible repeat (first | refine zh ?_ _ | refine zj ?_ | refine zg ?_ _)); refine zq (cs := #[.bool false, .string (⟨#[]⟩ : ByteArray), .string (⟨#[]⟩ : ByteArray), .int .i64 0, .int .i64 0, .int .i64 0, .int .i64 0, .int .i64 0]) ?_ 0 _ rfl; (with_reducible repeat (first | refine zh ?_ _ | refine zj ?_ | refine zg ?_ _)); exact zB.out⟩
             have n2_ : Aside0 (Below w.heap.size w ((((((((w14.setCell ⟨zA, 0, none⟩ (.bool ((rd_T55 l0_1 x3_2).f0))).setCell ⟨zA, 1, none⟩ (.string ((rd_T55 l0_1 x3_2).f1.f0))).setCell ⟨zA, 2, none⟩ (.string ((rd_T55 l0_1 x3_2).f1.f1))).setCell ⟨zA, 3, none⟩ (.int .i64 ((rd_T55 l0_1 x3_2).f1.f2))).setCell ⟨zA, 4, none⟩ (.int .i64 ((rd_T55 l0_1 x3_2).f1.f3))).setCell ⟨zA, 5, none⟩ (.int .i64 ((rd_T55 l0_1 x3_2).f1.f4))).setCell ⟨zA, 6, none⟩ (.int .i64 ((rd_T55 l0_1 x3_2).f1.f5))).setCell ⟨zA, 7, none⟩ (.int .i64 ((rd_T55 l0_1 x3_2).f1.f6)))) := ⟨by repeat (first | (with_reducible first | exact HB.out | apply zf | apply zc | apply ze | refine zk ?_ zF.out | refine zk ?_ zG.out) | exact HB.out)⟩
             (try clear zC)
             (try clear zB)
             (try clear HB)
             generalize ((((((((w14.setCell ⟨zA, 0, none⟩ (.bool ((rd_T55 l0_1 x3_2).f0))).setCell ⟨zA, 1, none⟩ (.string ((rd_T55 l0_1 x3_2).f1.f0))).setCell ⟨zA, 2, none⟩ (.string ((rd_T55 l0_1 x3_2).f1.f1))).setCell ⟨zA, 3, none⟩ (.int .i64 ((rd_T55 l0_1 x3_2).f1.f2))).setCell ⟨zA, 4, none⟩ (.int .i64 ((rd_T55 l0_1 x3_2).f1.f3))).setCell ⟨zA, 5, none⟩ (.int .i64 ((rd_T55 l0_1 x3_2).f1.f4))).setCell ⟨zA, 6, none⟩ (.int .i64 ((rd_T55 l0_1 x3_2).f1.f5))).setCell ⟨zA, 7, none⟩ (.int .i64 ((rd_T55 l0_1 x3_2).f1.f6))) = w23 at n0_ n1_ n2_ ⊢
             have zC := n0_
             have zB := n1_
             have HB := n2_
             clear n0_ n1_ n2_
             have n0_ := Aside0.mk (zj zC.out)
             have n1_ := Aside0.mk (zj zB.out)
             have n2_ := Aside0.mk (ze HB.out)
             clear zC
             clear zB
             clear HB
             have zC := n0_
             have zB := n1_
             have HB := n2_
             clear n0_ n1_ n2_
             have p151 : 0 ≤ ((ji20) : Int) := of_decide_eq_true (by first | (with_reducible assumption) | assumption)
             have q151 : (ji20) < (l0_1.length : Int) := of_decide_eq_true (by first | (with_reducible assumption) | assumption)
             obtain ⟨ad151, e151, hx151_0, hx151_1, hx151_2, hx151_3, hx151_4, hx151_5, hx151_6, hx151_7⟩ := at_T55 HR0_1.out (ji20) p151 q151
             have hw151_7 := hx151_7
             have hw151_6 := hx151_6
             have hw151_5 := hx151_5
             have hw151_4 := hx151_4
             have hw151_3 := hx151_3
             have hw151_2 := hx151_2
             have hw151_1 := hx151_1
             have hw151_0 := hx151_0
             obtain rfl : ad148 = ad151 := (by injection e151)
             replace hx151_0 := zb HB.out hx151_0
             replace hx151_1 := zb HB.out hx151_1
             replace hx151_2 := zb HB.out hx151_2
             replace hx151_3 := zb HB.out hx151_3
             replace hx151_4 := zb HB.out hx151_4
             replace hx151_5 := zb HB.out hx151_5
             replace hx151_6 := zb HB.out hx151_6
             replace hx151_7 := zb HB.out hx151_7
             replace p151 := eq_true p151
             replace q151 := eq_true q151
             refine start_ (n := 22) (S := fun w' => w'.cell? ⟨zA, 0, none⟩ = some (.bool ((rd_T55 l0_1 x3_2).f0)) ∧ w'.cell? ⟨zA, 1, none⟩ = some (.string ((rd_T55 l0_1 x3_2).f1.f0)) ∧ w'.cell? ⟨zA, 2, none⟩ = some (.string ((rd_T55 l0_1 x3_2).f1.f1)) ∧ w'.cell? ⟨zA, 3, none⟩ = some (.int .i64 ((rd_T55 l0_1 x3_2).f1.f2)) ∧ w'.cell? ⟨zA, 4, none⟩ = some (.int .i64 ((rd_T55 l0_1 x3_2).f1.f3)) ∧ w'.cell? ⟨zA, 5, none⟩ = some (.int .i64 ((rd_T55 l0_1 x3_2).f1.f4)) ∧ w'.cell? ⟨zA, 6, none⟩ = some (.int .i64 ((rd_T55 l0_1 x3_2).f1.f5)) ∧ w'.cell? ⟨zA, 7, none⟩ = some (.int .i64 ((rd_T55 l0_1 x3_2).f1.f6)) ∧ w'.cell? ⟨zE, 0, none⟩ = some (.int .i64 a0_0) ∧ w'.cell? ⟨zE, 1, none⟩ = some (.slice (some ad148) l0_1.length c0_1) ∧ w'.cell? (ad148.add (((ji20)).toNat * 8)) = some (.bool ((rd_T55 l0_1 (ji20)).f0)) ∧ w'.cell? ⟨(ad148.add (((ji20)).toNat * 8)).block, (ad148.add (((ji20)).toNat * 8)).off + 1, none⟩ = some (.string ((rd_T55 l0_1 (ji20)).f1.f0)) ∧ w'.cell? ⟨(ad148.add (((ji20)).toNat * 8)).block, (ad148.add (((ji20)).toNat * 8)).off + 2, none⟩ = some (.string ((rd_T55 l0_1 (ji20)).f1.f1)) ∧ w'.cell? ⟨(ad148.add (((ji20)).toNat * 8)).block, (ad148.add (((ji20)).toNat * 8)).off + 3, none⟩ = some (.int .i64 ((rd_T55 l0_1 (ji20)).f1.f2)) ∧ w'.cell? ⟨(ad148.add (((ji20)).toNat * 8)).block, (ad148.add (((ji20)).toNat * 8)).off + 4, none⟩ = some (.int .i64 ((rd_T55 l0_1 (ji20)).f1.f3)) ∧ w'.cell? ⟨(ad148.add (((ji20)).toNat * 8)).block, (ad148.add (((ji20)).toNat * 8)).off + 5, none⟩ = some (.int .i64 ((rd_T55 l0_1 (ji20)).f1.f4)) ∧ w'.cell? ⟨(ad148.add (((ji20)).toNat * 8)).block, (ad148.add (((ji20)).toNat * 8)).off + 6, none⟩ = some (.int .i64 ((rd_T55 l0_1 (ji20)).f1.f5)) ∧ w'.cell? ⟨(ad148.add (((ji20)).toNat * 8)).block, (ad148.add (((ji20)).toNat * 8)).off + 7, none⟩ = some (.int .i64 ((rd_T55 l0_1 (ji20)).f1.f6))) (ds := []) #[false, false, false, false, false, false, false, false, false, false, false, false, false, false, false, false, false, false, false, false, false, false] (by kernel_rfl) rfl rfl ⟨(zi zB.out 0).trans rfl, (zi zB.out 1).trans rfl, (zi zB.out 2).trans rfl, (zi zB.out 3).trans rfl, (zi zB.out 4).trans rfl, (zi zB.out 5).trans rfl, (zi zB.out 6).trans rfl, (zi zB.out 7).trans rfl, (zi zC.out 0).trans rfl, (zi zC.out 1).trans rfl, (zb HB.out hw151_0), (zb HB.out hw151_1), (zb HB.out hw151_2), (zb HB.out hw151_3), (zb HB.out hw151_4), (zb HB.out hw151_5), (zb HB.out hw151_6), (zb HB.out hw151_7)⟩ (fun hHeld => ?_); refine with_tabW spec_ValidTxn.tab7 spec_ValidTxn.bits7 (fun HT_ HW_ => ?_)
             generalize w23.drew = w24 at zC zB HB hx151_0 hx151_1 hx151_2 hx151_3 hx151_4 hx151_5 hx151_6 hx151_7 hHeld ⊢
             refine zv (i := 0) (N := some 31) (v := ?_) (a' := ?_) #[true, false, false, false, false, false, false, false, false, false, false, false, false, false, false, false, false, false, false, false, false, false] rfl rfl (zu HT_.out (by kernel_rfl)) (fun _ _ _ h => h) (Or.inl ⟨by rfl, ?_⟩) ?_ ?_
             rotate_left
             ·intro w'
              go_simp
              with_reducible rfl
             rotate_left
             ·simp only [Act.put, List.setIfInBounds_toArray, List.set_cons_zero, List.set_cons_succ, zp, zr]
              rfl
             refine take_ (i := 1) (N := some 32) (v := ?_) (a' := ?_) #[true, true, false, false, false, false, false, false, false, false, false, false, false, false, false, false, false, false, false, false, false, false] rfl rfl (take_ofW HT_.out HW_.out (by kernel_rfl)) (fun _ _ _ h => h) (Or.inl ⟨by rfl, ?_⟩) hHeld ?_ ?_
             rotate_left
             ·rintro w' ⟨s0, s1, s2, s3, s4, s5, s6, s7, s8, s9, s10, s11, s12, s13, s14, s15, s16, s17⟩
              go_simp
              with_reducible rfl
             rotate_left
             ·simp only [Act.put, List.setIfInBounds_toArray, List.set_cons_zero, List.set_cons_succ, zp, zr]
              rfl
             refine one_ (i := 2) (N := some 33) #[true, true, true, false, false, false, false, false, false, false, false, false, false, false, false, false, false, false, false, false, false, false] rfl rfl (one_of HT_.out (by kernel_rfl)) (by decide) (fun K hK => ?_)
             refine goes_ Tryd.func51 (by kernel_rfl) rfl #[.agg #[.string ((rd_T55 l0_1 x3_2).f1.f0), .string ((rd_T55 l0_1 x3_2).f1.f1), .int .i64 ((rd_T55 l0_1 x3_2).f1.f2), .int .i64 ((rd_T55 l0_1 x3_2).f1.f3), .int .i64 ((rd_T55 l0_1 x3_2).f1.f4), .int .i64 ((rd_T55 l0_1 x3_2).f1.f5), .int .i64 ((rd_T55 l0_1 x3_2).f1.f6)]] (by rfl) rfl rfl (by (try simp only [List.map_toArray, List.map_cons, List.map_nil]); first | done | rfl | (simp only [List.length_drop, List.length_take]; rfl)) ?_
             with_reducible refine (spec_l3ValidNode.calls k2 ((rd_T55 l0_1 x3_2).f1.f0) ((rd_T55 l0_1 x3_2).f1.f1) ((rd_T55 l0_1 x3_2).f1.f2) ((rd_T55 l0_1 x3_2).f1.f3) ((rd_T55 l0_1 x3_2).f1.f4) ((rd_T55 l0_1 x3_2).f1.f5) ((rd_T55 l0_1 x3_2).f1.f6) true _ A17.out).mono ?_
             rintro e w25 ⟨rfl, hb⟩
             refine ⟨_, rfl, ?_⟩
             have n0_ := Aside0.mk (zt (g := zE) (o := .cells #[.int .i64 a0_0, .slice (some ad148) l0_1.length c0_1] 25 (0, 0)) (by (with_reducible repeat (first | refine zh ?_ _ | refine zj ?_ | refine zg ?_ _)); exact zC.out) hb)
             have n1_ := Aside0.mk (zt (g := zA) (o := .cells #[.bool ((rd_T55 l0_1 x3_2).f0), .string ((rd_T55 l0_1 x3_2).f1.f0), .string ((rd_T55 l0_1 x3_2).f1.f1), .int .i64 ((rd_T55 l0_1 x3_2).f1.f2), .int .i64 ((rd_T55 l0_1 x3_2).f1.f3), .int .i64 ((rd_T55 l0_1 x3_2).f1.f4), .int .i64 ((rd_T55 l0_1 x3_2).f1.f5), .int .i64 ((rd_T55 l0_1 x3_2).f1.f6)] 55 (0, 0)) (by (with_reducible repeat (first | refine zh ?_ _ | refine zj ?_ | refine zg ?_ _)); exact zB.out) hb)
             have n2_ := Aside0.mk (zm (by repeat (first | (with_reducible first | exact HB.out | apply zf | apply zc | apply ze | refine zk ?_ zF.out | refine zk ?_ zG.out) | exact HB.out)) hb)
             clear zC
             clear zB
             clear HB
             have zC := n0_
             have zB := n1_
             have HB := n2_
             clear n0_ n1_ n2_
             (try clear hb)
             (try clear hb2)
             (try clear hk)
             (try clear hi)
             refine hK.out _ _ ⟨(zi zB.out 0).trans rfl, (zi zB.out 1).trans rfl, (zi zB.out 2).trans rfl, (zi zB.out 3).trans rfl, (zi zB.out 4).trans rfl, (zi zB.out 5).trans rfl, (zi zB.out 6).trans rfl, (zi zB.out 7).trans rfl, (zi zC.out 0).trans rfl, (zi zC.out 1).trans rfl, (zb HB.out hw151_0), (zb HB.out hw151_1), (zb HB.out hw151_2), (zb HB.out hw151_3), (zb HB.out hw151_4), (zb HB.out hw151_5), (zb HB.out hw151_6), (zb HB.out hw151_7)⟩ (fun hHeld => ?_)
             clear hK K
             refine norm_ (a' := ?_) ?_ ?_
             rotate_left
             ·show Act.put _ (some 33) _ = _
              simp only [Act.put, List.setIfInBounds_toArray, List.set_cons_zero, List.set_cons_succ, zp, zr]
              rfl
             refine zv (i := 3) (N := some 34) (v := ?_) (a' := ?_) #[true, true, true, true, false, false, false, false, false, false, false, false, false, false, false, false, false, false, false, false, false, false] rfl rfl (zu HT_.out (by kernel_rfl)) (fun _ _ _ h => h) (Or.inl ⟨by rfl, ?_⟩) ?_ ?_
             rotate_left
             ·intro w'
              go_simp
              with_reducible rfl
             rotate_left
             ·simp only [Act.put, List.setIfInBounds_toArray, List.set_cons_zero, List.set_cons_succ, zp, zr]
              rfl
             refine zv (i := 4) (N := some 35) (v := ?_) (a' := ?_) #[true, true, true, true, true, false, false, false, false, false, false, false, false, false, false, false, false, false, false, false, false, false] rfl rfl (zu HT_.out (by kernel_rfl)) (fun _ _ _ h => h) (Or.inl ⟨by rfl, ?_⟩) ?_ ?_
             rotate_left
             ·intro w'
              go_simp
              with_reducible rfl
             rotate_left
             ·simp only [Act.put, List.setIfInBounds_toArray, List.set_cons_zero, List.set_cons_succ, zp, zr]
              rfl
             refine zv (i := 5) (N := some 36) (v := ?_) (a' := ?_) #[true, true, true, true, true, true, false, false, false, false, false, false, false, false, false, false, false, false, false, false, false, false] rfl rfl (zu HT_.out (by kernel_rfl)) (fun _ _ _ h => h) (Or.inl ⟨by rfl, ?_⟩) ?_ ?_
             rotate_left
             ·intro w'
              go_simp
              with_reducible rfl
             rotate_left
             ·simp only [Act.put, List.setIfInBounds_toArray, List.set_cons_zero, List.set_cons_succ, zp, zr]
              rfl
             refine zv (i := 6) (N := some 37) (v := ?_) (a' := ?_) #[true, true, true, true, true, true, true, false, false, false, false, false, false, false, false, false, false, false, false, false, false, false] rfl rfl (zu HT_.out (by kernel_rfl)) (fun _ _ _ h => h) (Or.inl ⟨by rfl, ?_⟩) ?_ ?_
             rotate_left
             ·intro w'
              go_simp
              with_reducible rfl
             rotate_left
             ·simp only [Act.put, List.setIfInBounds_toArray, List.set_cons_zero, List.set_cons_succ, zp, zr]
              rfl
             refine zv (i := 7) (N := some 38) (v := ?_) (a' := ?_) #[true, true, true, true, true, true, true, true, false, false, false, false, false, false, false, false, false, false, false, false, false, false] rfl rfl (zu HT_.out (by kernel_rfl)) (fun _ _ _ h => h) (Or.inl ⟨by rfl, ?_⟩) ?_ ?_
             rotate_left
             ·intro w'
              go_simp
              with_reducible rfl
             rotate_left
             ·simp only [Act.put, List.setIfInBounds_toArray, List.set_cons_zero, List.set_cons_succ, zp, zr]
              rfl
             refine zv (i := 8) (N := some 39) (v := ?_) (a' := ?_) #[true, true, true, true, true, true, true, true, true, false, false, false, false, false, false, false, false, false, false, false, false, false] rfl rfl (zu HT_.out (by kernel_rfl)) (fun _ _ _ h => h) (Or.inl ⟨by rfl, ?_⟩) ?_ ?_
             rotate_left
             ·intro w'
              go_simp
              with_reducible rfl
             rotate_left
             ·simp only [Act.put, List.setIfInBounds_toArray, List.set_cons_zero, List.set_cons_succ, zp, zr]
              rfl
             refine zv (i := 9) (N := some 40) (v := ?_) (a' := ?_) #[true, true, true, true, true, true, true, true, true, true, false, false, false, false, false, false, false, false, false, false, false, false] rfl rfl (zu HT_.out (by kernel_rfl)) (fun _ _ _ h => h) (Or.inl ⟨by rfl, ?_⟩) ?_ ?_
             rotate_left
             ·intro w'
              go_simp
              with_reducible rfl
             rotate_left
             ·simp only [Act.put, List.setIfInBounds_toArray, List.set_cons_zero, List.set_cons_succ, zp, zr]
              rfl
             refine zv (i := 11) (N := some 42) (v := ?_) (a' := ?_) #[true, true, true, true, true, true, true, true, true, true, false, true, false, false, false, false, false, false, false, false, false, false] rfl rfl (zu HT_.out (by kernel_rfl)) (fun _ _ _ h => h) (Or.inl ⟨by rfl, ?_⟩) ?_ ?_
             rotate_left
             ·intro w'
              go_simp
              with_reducible rfl
             rotate_left
             ·simp only [Act.put, List.setIfInBounds_toArray, List.set_cons_zero, List.set_cons_succ, zp, zr]
              rfl
             refine zv (i := 13) (N := some 44) (v := ?_) (a' := ?_) #[true, true, true, true, true, true, true, true, true, true, false, true, false, true, false, false, false, false, false, false, false, false] rfl rfl (zu HT_.out (by kernel_rfl)) (fun _ _ _ h => h) (Or.inl ⟨by rfl, ?_⟩) ?_ ?_
             rotate_left
             ·intro w'
              go_simp
              with_reducible rfl
             rotate_left
             ·simp only [Act.put, List.setIfInBounds_toArray, List.set_cons_zero, List.set_cons_succ, zp, zr]
              rfl
             refine zv (i := 14) (N := some 45) (v := ?_) (a' := ?_) #[true, true, true, true, true, true, true, true, true, true, false, true, false, true, true, false, false, false, false, false, false, false] rfl rfl (zu HT_.out (by kernel_rfl)) (fun _ _ _ h => h) (Or.inl ⟨by rfl, ?_⟩) ?_ ?_
             rotate_left
             ·intro w'
              go_simp
              with_reducible rfl
             rotate_left
             ·simp only [Act.put, List.setIfInBounds_toArray, List.set_cons_zero, List.set_cons_succ, zp, zr]
              rfl
             refine take_ (i := 10) (N := some 41) (v := ?_) (a' := ?_) #[true, true, true, true, true, true, true, true, true, true, true, true, false, true, true, false, false, false, false, false, false, false] rfl rfl (take_ofW HT_.out HW_.out (by kernel_rfl)) (fun _ _ _ h => h) (Or.inl ⟨by rfl, ?_⟩) hHeld ?_ ?_
             rotate_left
             ·rintro w' ⟨s0, s1, s2, s3, s4, s5, s6, s7, s8, s9, s10, s11, s12, s13, s14, s15, s16, s17⟩
              go_simp
              with_reducible rfl
             rotate_left
             ·simp only [Act.put, List.setIfInBounds_toArray, List.set_cons_zero, List.set_cons_succ, zp, zr]
              rfl
             refine take_ (i := 12) (N := some 43) (v := ?_) (a' := ?_) #[true, true, true, true, true, true, true, true, true, true, true, true, true, true, true, false, false, false, false, false, false, false] rfl rfl (take_ofW HT_.out HW_.out (by kernel_rfl)) (fun _ _ _ h => h) (Or.inl ⟨by rfl, ?_⟩) hHeld ?_ ?_
             rotate_left
             ·rintro w' ⟨s0, s1, s2, s3, s4, s5, s6, s7, s8, s9, s10, s11, s12, s13, s14, s15, s16, s17⟩
              go_simp
              with_reducible rfl
             rotate_left
             ·simp only [Act.put, List.setIfInBounds_toArray, List.set_cons_zero, List.set_cons_succ, zp, zr]
              rfl
             refine zv (i := 15) (N := some 46) (v := ?_) (a' := ?_) #[true, true, true, true, true, true, true, true, true, true, true, true, true, true, true, true, false, false, false, false, false, false] rfl rfl (zu HT_.out (by kernel_rfl)) (fun _ _ _ h => h) (Or.inl ⟨by rfl, ?_⟩) ?_ ?_
             rotate_left
             ·intro w'
              go_simp
              with_reducible rfl
             rotate_left
             ·simp only [Act.put, List.setIfInBounds_toArray, List.set_cons_zero, List.set_cons_succ, zp, zr]
              rfl
             refine zv (i := 16) (N := some 47) (v := ?_) (a' := ?_) #[true, true, true, true, true, true, true, true, true, true, true, true, true, true, true, true, true, false, false, false, false, false] rfl rfl (zu HT_.out (by kernel_rfl)) (fun _ _ _ h => h) (Or.inl ⟨by rfl, ?_⟩) ?_ ?_
             rotate_left
             ·intro w'
              go_simp
              with_reducible rfl
             rotate_left
             ·simp only [Act.put, List.setIfInBounds_toArray, List.set_cons_zero, List.set_cons_succ, zp, zr]
              rfl
             refine zv (i := 17) (N := some 48) (v := ?_) (a' := ?_) #[true, true, true, true, true, true, true, true, true, true, true, true, true, true, true, true, true, true, false, false, false, false] rfl rfl (zu HT_.out (by kernel_rfl)) (fun _ _ _ h => h) (Or.inl ⟨by rfl, ?_⟩) ?_ ?_
             rotate_left
             ·intro w'
              go_simp
              with_reducible rfl
             rotate_left
             ·simp only [Act.put, List.setIfInBounds_toArray, List.set_cons_zero, List.set_cons_succ, zp, zr]
              rfl
             refine take_ (i := 18) (N := some 49) (v := ?_) (a' := ?_) #[true, true, true, true, true, true, true, true, true, true, true, true, true, true, true, true, true, true, true, false, false, false] rfl rfl (take_ofW HT_.out HW_.out (by kernel_rfl)) (fun _ _ _ h => h) (Or.inl ⟨by rfl, ?_⟩) hHeld ?_ ?_
             rotate_left
             ·rintro w' ⟨s0, s1, s2, s3, s4, s5, s6, s7, s8, s9, s10, s11, s12, s13, s14, s15, s16, s17⟩
              go_simp
              with_reducible rfl
             rotate_left
             ·simp only [Act.put, List.setIfInBounds_toArray, List.set_cons_zero, List.set_cons_succ, zp, zr]
              rfl
             refine zv (i := 19) (N := some 50) (v := ?_) (a' := ?_) #[true, true, true, true, true, true, true, true, true, true, true, true, true, true, true, true, true, true, true, true, false, false] rfl rfl (zu HT_.out (by kernel_rfl)) (fun _ _ _ h => h) (Or.inl ⟨by rfl, ?_⟩) ?_ ?_
             rotate_left
             ·intro w'
              go_simp
              with_reducible rfl
             rotate_left
             ·simp only [Act.put, List.setIfInBounds_toArray, List.set_cons_zero, List.set_cons_succ, zp, zr]
              rfl
             refine zv (i := 20) (N := some 51) (v := ?_) (a' := ?_) #[true, true, true, true, true, true, true, true, true, true, true, true, true, true, true, true, true, true, true, true, true, false] rfl rfl (zu HT_.out (by kernel_rfl)) (fun _ _ _ h => h) (Or.inl ⟨by rfl, ?_⟩) ?_ ?_
             rotate_left
             ·intro w'
              go_simp
              with_reducible rfl
             rotate_left
             ·simp only [Act.put, List.setIfInBounds_toArray, List.set_cons_zero, List.set_cons_succ, zp, zr]
              rfl
             refine zv (i := 21) (N := some 52) (v := ?_) (a' := ?_) #[true, true, true, true, true, true, true, true, true, true, true, true, true, true, true, true, true, true, true, true, true, true] rfl rfl (zu HT_.out (by kernel_rfl)) (fun _ _ _ h => h) (Or.inl ⟨by rfl, ?_⟩) ?_ ?_
             rotate_left
             ·intro w'
              go_simp
              with_reducible rfl
             rotate_left
             ·simp only [Act.put, List.setIfInBounds_toArray, List.set_cons_zero, List.set_cons_succ, zp, zr]
              rfl
             refine done_ (done_of HT_.out (by kernel_rfl)) ?_
             try go_wp2
             go_meet
             case rel => exact ⟨_, (!(Op.bytesLess (((rd_T55 l0_1 (ji20)).f1.f0).toList) (((rd_T55 l0_1 x3_2).f1.f0).toList))), (by first | rfl | (simp; done) | (simp only [← hji20] <;> (first | rfl | simp)) | (simp [*]; done)), H', ⟨by have := HJ1.out; have := HK2.out; first | omega | exact Nat.le_refl _⟩, ⟨by (with_reducible repeat (first | refine zh ?_ _ | refine zj ?_ | refine zg ?_ _)); exact zC.out⟩, ⟨by (with_reducible repeat (first | refine zh ?_ _ | refine zj ?_ | refine zg ?_ _)); exact zB.out⟩, ⟨by repeat (first | (with_reducible first | exact HB.out | apply zf | apply zc | apply ze | refine zk ?_ zF.out | refine zk ?_ zG.out) | exact HB.out)⟩⟩
            ·rw [if_neg c22] at H
             exact absurd H (by simp)
           ·rw [if_neg c21] at H
            exact absurd H (by simp)
          ·rw [if_neg c19] at H
           have c19b0 : decide (0 < x3_2) = false := decide_eq_false c19
           clear c19
           (first | rw [c19b0] | (simp only [zp, zr]; rw [c19b0]) | skip)
           have H' := Aside0.mk H
           clear H
           try go_wp2
           have n0_ : Aside0 (((((((((w14.setCell ⟨zA, 0, none⟩ (.bool ((rd_T55 l0_1 x3_2).f0))).setCell ⟨zA, 1, none⟩ (.string ((rd_T55 l0_1 x3_2).f1.f0))).setCell ⟨zA, 2, none⟩ (.string ((rd_T55 l0_1 x3_2).f1.f1))).setCell ⟨zA, 3, none⟩ (.int .i64 ((rd_T55 l0_1 x3_2).f1.f2))).setCell ⟨zA, 4, none⟩ (.int .i64 ((rd_T55 l0_1 x3_2).f1.f3))).setCell ⟨zA, 5, none⟩ (.int .i64 ((rd_T55 l0_1 x3_2).f1.f4))).setCell ⟨zA, 6, none⟩ (.int .i64 ((rd_T55 l0_1 x3_2).f1.f5))).setCell ⟨zA, 7, none⟩ (.int .i64 ((rd_T55 l0_1 x3_2).f1.f6))).heap[zE]? = some (.cells #[.int .i64 a0_0, .slice (some ad148) l0_1.length c0_1] 25 (0, 0))) := ⟨by (with_reducible repeat (first | refine zh ?_ _ | refine zj ?_ | refine zg ?_ _)); refine zo ?_ zD.out _; (with_reducible repeat (first | refine zh ?_ _ | refine zj ?_ | refine zg ?_ _)); refine zo ?_ zD.out _; (with_reducible repeat (first | refine zh ?_ _ | refine zj ?_ | refine zg ?_ _)); refine zo ?_ zD.out _; (with_reducible repeat (first | refine zh ?_ _ | refine zj ?_ | refine zg ?_ _)); refine zo ?_ zD.out _; (with_reducible repeat (first | refine zh ?_ _ | refine zj ?_ | refine zg ?_ _)); refine zo ?_ zD.out _; (with_reducible repeat (first | refine zh ?_ _ | refine zj ?_ | refine zg ?_ _)); refine zo ?_ zD.out _; (with_reducible repeat (first | refine zh ?_ _ | refine zj ?_ | refine zg ?_ _)); refine zo ?_ zD.out _; (with_reducible repeat (first | refine zh ?_ _ | refine zj ?_ | refine zg ?_ _)); refine zo ?_ zD.out _; (with_reducible repeat (first | refine zh ?_ _ | refine zj ?_ | refine zg ?_ _)); exact zC.out⟩
           have n1_ : Aside0 (((((((((w14.setCell ⟨zA, 0, none⟩ (.bool ((rd_T55 l0_1 x3_2).f0))).setCell ⟨zA, 1, none⟩ (.string ((rd_T55 l0_1 x3_2).f1.f0))).setCell ⟨zA, 2, none⟩ (.string ((rd_T55 l0_1 x3_2).f1.f1))).setCell ⟨zA, 3, none⟩ (.int .i64 ((rd_T55 l0_1 x3_2).f1.f2))).setCell ⟨zA, 4, none⟩ (.int .i64 ((rd_T55 l0_1 x3_2).f1.f3))).setCell ⟨zA, 5, none⟩ (.int .i64 ((rd_T55 l0_1 x3_2).f1.f4))).setCell ⟨zA, 6, none⟩ (.int .i64 ((rd_T55 l0_1 x3_2).f1.f5))).setCell ⟨zA, 7, none⟩ (.int .i64 ((rd_T55 l0_1 x3_2).f1.f6))).heap[zA]? = some (.cells #[.bool ((rd_T55 l0_1 x3_2).f0), .string ((rd_T55 l0_1 x3_2).f1.f0), .string ((rd_T55 l0_1 x3_2).f1.f1), .int .i64 ((rd_T55 l0_1 x3_2).f1.f2), .int .i64 ((rd_T55 l0_1 x3_2).f1.f3), .int .i64 ((rd_T55 l0_1 x3_2).f1.f4), .int .i64 ((rd_T55 l0_1 x3_2).f1.f5), .int .i64 ((rd_T55 l0_1 x3_2).f1.f6)] 55 (0, 0))) := ⟨by (with_reducible repeat (first | refine zh ?_ _ | refine zj ?_ | refine zg ?_ _)); refine zq (cs := #[.bool ((rd_T55 l0_1 x3_2).f0), .string ((rd_T55 l0_1 x3_2).f1.f0), .string ((rd_T55 l0_1 x3_2).f1.f1), .int .i64 ((rd_T55 l0_1 x3_2).f1.f2), .int .i64 ((rd_T55 l0_1 x3_2).f1.f3), .int .i64 ((rd_T55 l0_1 x3_2).f1.f4), .int .i64 ((rd_T55 l0_1 x3_2).f1.f5), .int .i64 0]) ?_ 7 _ rfl; (with_reducible repeat (first | refine zh ?_ _ | refine zj ?_ | refine zg ?_ _)); refine zq (cs := #[.bool ((rd_T55 l0_1 x3_2).f0), .string ((rd_T55 l0_1 x3_2).f1.f0), .string ((rd_T55 l0_1 x3_2).f1.f1), .int .i64 ((rd_T55 l0_1 x3_2).f1.f2), .int .i64 ((rd_T55 l0_1 x3_2).f1.f3), .int .i64 ((rd_T55 l0_1 x3_2).f1.f4), .int .i64 0, .int .i64 0]) ?_ 6 _ rfl; (with_reducible repeat (first | refine zh ?_ _ | refine zj ?_ | refine zg ?_ _)); refine zq (cs := #[.bool ((rd_T55 l0_1 x3_2).f0), .string ((rd_T55 l0_1 x3_2).f1.f0), .string ((rd_T55 l0_1 x3_2).f1.f1), .int .i64 ((rd_T55 l0_1 x3_2).f1.f2), .int .i64 ((rd_T55 l0_1 x3_2).f1.f3), .int .i64 0, .int .i64 0, .int .i64 0]) ?_ 5 _ rfl; (with_reducible repeat (first | refine zh ?_ _ | refine zj ?_ | refine zg ?_ _)); refine zq (cs := #[.bool ((rd_T55 l0_1 x3_2).f0), .string ((rd_T55 l0_1 x3_2).f1.f0), .string ((rd_T55 l0_1 x3_2).f1.f1), .int .i64 ((rd_T55 l0_1 x3_2).f1.f2), .int .i64 0, .int .i64 0, .int .i64 0, .int .i64 0]) ?_ 4 _ rfl; (with_reducible repeat (first | refine zh ?_ _ | refine zj ?_ | refine zg ?_ _)); refine zq (cs := #[.bool ((rd_T55 l0_1 x3_2).f0), .string ((rd_T55 l0_1 x3_2).f1.f0), .string ((rd_T55 l0_1 x3_2).f1.f1), .int .i64 0, .int .i64 0, .int .i64 0, .int .i64 0, .int .i64 0]) ?_ 3 _ rfl; (with_reducible repeat (first | refine zh ?_ _ | refine zj ?_ | refine zg ?_ _)); refine zq (cs := #[.bool ((rd_T55 l0_1 x3_2).f0), .string ((rd_T55 l0_1 x3_2).f1.f0), .string (⟨#[]⟩ : ByteArray), .int .i64 0, .int .i64 0, .int .i64 0, .int .i64 0, .int .i64 0]) ?_ 2 _ rfl; (with_reducible repeat (first | refine zh ?_ _ | refine zj ?_ | refine zg ?_ _)); refine zq (cs := #[.bool ((rd_T55 l0_1 x3_2).f0), .string (⟨#[]⟩ : ByteArray), .string (⟨#[]⟩ : ByteArray), .int .i64 0, .int .i64 0, .int .i64 0, .int .i64 0, .int .i64 0]) ?_ 1 _ rfl; (with_reducible repeat (first | refine zh ?_ _ | refine zj ?_ | refine zg ?_ _)); refine zq (cs := #[.bool false, .string (⟨#[]⟩ : ByteArray), .string (⟨#[]⟩ : ByteArray), .int .i64 0, .int .i64 0, .int .i64 0, .int .i64 0, .int .i64 0]) ?_ 0 _ rfl; (with_reducible repeat (first | refine zh ?_ _ | refine zj ?_ | refine zg ?_ _)); exact zB.out⟩
           have n2_ : Aside0 (Below w.heap.size w ((((((((w14.setCell ⟨zA, 0, none⟩ (.bool ((rd_T55 l0_1 x3_2).f0))).setCell ⟨zA, 1, none⟩ (.string ((rd_T55 l0_1 x3_2).f1.f0))).setCell ⟨zA, 2, none⟩ (.string ((rd_T55 l0_1 x3_2).f1.f1))).setCell ⟨zA, 3, none⟩ (.int .i64 ((rd_T55 l0_1 x3_2).f1.f2))).setCell ⟨zA, 4, none⟩ (.int .i64 ((rd_T55 l0_1 x3_2).f1.f3))).setCell ⟨zA, 5, none⟩ (.int .i64 ((rd_T55 l0_1 x3_2).f1.f4))).setCell ⟨zA, 6, none⟩ (.int .i64 ((rd_T55 l0_1 x3_2).f1.f5))).setCell ⟨zA, 7, none⟩ (.int .i64 ((rd_T55 l0_1 x3_2).f1.f6)))) := ⟨by repeat (first | (with_reducible first | exact HB.out | apply zf | apply zc | apply ze | refine zk ?_ zF.out | refine zk ?_ zG.out) | exact HB.out)⟩
           (try clear zC)
           (try clear zB)
           (try clear HB)
           generalize ((((((((w14.setCell ⟨zA, 0, none⟩ (.bool ((rd_T55 l0_1 x3_2).f0))).setCell ⟨zA, 1, none⟩ (.string ((rd_T55 l0_1 x3_2).f1.f0))).setCell ⟨zA, 2, none⟩ (.string ((rd_T55 l0_1 x3_2).f1.f1))).setCell ⟨zA, 3, none⟩ (.int .i64 ((rd_T55 l0_1 x3_2).f1.f2))).setCell ⟨zA, 4, none⟩ (.int .i64 ((rd_T55 l0_1 x3_2).f1.f3))).setCell ⟨zA, 5, none⟩ (.int .i64 ((rd_T55 l0_1 x3_2).f1.f4))).setCell ⟨zA, 6, none⟩ (.int .i64 ((rd_T55 l0_1 x3_2).f1.f5))).setCell ⟨zA, 7, none⟩ (.int .i64 ((rd_T55 l0_1 x3_2).f1.f6))) = w26 at n0_ n1_ n2_ ⊢
           have zC := n0_
           have zB := n1_
           have HB := n2_
           clear n0_ n1_ n2_
           have n0_ := Aside0.mk (zj zC.out)
           have n1_ := Aside0.mk (zj zB.out)
           have n2_ := Aside0.mk (ze HB.out)
           clear zC
           clear zB
           clear HB
           have zC := n0_
           have zB := n1_
           have HB := n2_
           clear n0_ n1_ n2_
           refine start_ (n := 22) (S := fun w' => w'.cell? ⟨zA, 0, none⟩ = some (.bool ((rd_T55 l0_1 x3_2).f0)) ∧ w'.cell? ⟨zA, 1, none⟩ = some (.string ((rd_T55 l0_1 x3_2).f1.f0)) ∧ w'.cell? ⟨zA, 2, none⟩ = some (.string ((rd_T55 l0_1 x3_2).f1.f1)) ∧ w'.cell? ⟨zA, 3, none⟩ = some (.int .i64 ((rd_T55 l0_1 x3_2).f1.f2)) ∧ w'.cell? ⟨zA, 4, none⟩ = some (.int .i64 ((rd_T55 l0_1 x3_2).f1.f3)) ∧ w'.cell? ⟨zA, 5, none⟩ = some (.int .i64 ((rd_T55 l0_1 x3_2).f1.f4)) ∧ w'.cell? ⟨zA, 6, none⟩ = some (.int .i64 ((rd_T55 l0_1 x3_2).f1.f5)) ∧ w'.cell? ⟨zA, 7, none⟩ = some (.int .i64 ((rd_T55 l0_1 x3_2).f1.f6))) (ds := []) #[false, false, false, false, false, false, false, false, false, false, false, false, false, false, false, false, false, false, false, false, false, false] (by kernel_rfl) rfl rfl ⟨(zi zB.out 0).trans rfl, (zi zB.out 1).trans rfl, (zi zB.out 2).trans rfl, (zi zB.out 3).trans rfl, (zi zB.out 4).trans rfl, (zi zB.out 5).trans rfl, (zi zB.out 6).trans rfl, (zi zB.out 7).trans rfl⟩ (fun hHeld => ?_); refine with_tabW spec_ValidTxn.tab7 spec_ValidTxn.bits7 (fun HT_ HW_ => ?_)
           generalize w26.drew = w27 at zC zB HB hHeld ⊢
           refine zv (i := 0) (N := some 31) (v := ?_) (a' := ?_) #[true, false, false, false, false, false, false, false, false, false, false, false, false, false, false, false, false, false, false, false, false, false] rfl rfl (zu HT_.out (by kernel_rfl)) (fun _ _ _ h => h) (Or.inl ⟨by rfl, ?_⟩) ?_ ?_
           rotate_left
           ·intro w'
            go_simp
            with_reducible rfl
           rotate_left
           ·simp only [Act.put, List.setIfInBounds_toArray, List.set_cons_zero, List.set_cons_succ, zp, zr]
            rfl
           refine take_ (i := 1) (N := some 32) (v := ?_) (a' := ?_) #[true, true, false, false, false, false, false, false, false, false, false, false, false, false, false, false, false, false, false, false, false, false] rfl rfl (take_ofW HT_.out HW_.out (by kernel_rfl)) (fun _ _ _ h => h) (Or.inl ⟨by rfl, ?_⟩) hHeld ?_ ?_
           rotate_left
           ·rintro w' ⟨s0, s1, s2, s3, s4, s5, s6, s7⟩
            go_simp
            with_reducible rfl
           rotate_left
           ·simp only [Act.put, List.setIfInBounds_toArray, List.set_cons_zero, List.set_cons_succ, zp, zr]
            rfl
           refine one_ (i := 2) (N := some 33) #[true, true, true, false, false, false, false, false, false, false, false, false, false, false, false, false, false, false, false, false, false, false] rfl rfl (one_of HT_.out (by kernel_rfl)) (by decide) (fun K hK => ?_)
           refine goes_ Tryd.func51 (by kernel_rfl) rfl #[.agg #[.string ((rd_T55 l0_1 x3_2).f1.f0), .string ((rd_T55 l0_1 x3_2).f1.f1), .int .i64 ((rd_T55 l0_1 x3_2).f1.f2), .int .i64 ((rd_T55 l0_1 x3_2).f1.f3), .int .i64 ((rd_T55 l0_1 x3_2).f1.f4), .int .i64 ((rd_T55 l0_1 x3_2).f1.f5), .int .i64 ((rd_T55 l0_1 x3_2).f1.f6)]] (by rfl) rfl rfl (by (try simp only [List.map_toArray, List.map_cons, List.map_nil]); first | done | rfl | (simp only [List.length_drop, List.length_take]; rfl)) ?_
           with_reducible refine (spec_l3ValidNode.calls k2 ((rd_T55 l0_1 x3_2).f1.f0) ((rd_T55 l0_1 x3_2).f1.f1) ((rd_T55 l0_1 x3_2).f1.f2) ((rd_T55 l0_1 x3_2).f1.f3) ((rd_T55 l0_1 x3_2).f1.f4) ((rd_T55 l0_1 x3_2).f1.f5) ((rd_T55 l0_1 x3_2).f1.f6) true _ A17.out).mono ?_
           rintro e w28 ⟨rfl, hb⟩
           refine ⟨_, rfl, ?_⟩
           have n0_ := Aside0.mk (zt (g := zE) (o := .cells #[.int .i64 a0_0, .slice (some ad148) l0_1.length c0_1] 25 (0, 0)) (by (with_reducible repeat (first | refine zh ?_ _ | refine zj ?_ | refine zg ?_ _)); exact zC.out) hb)
           have n1_ := Aside0.mk (zt (g := zA) (o := .cells #[.bool ((rd_T55 l0_1 x3_2).f0), .string ((rd_T55 l0_1 x3_2).f1.f0), .string ((rd_T55 l0_1 x3_2).f1.f1), .int .i64 ((rd_T55 l0_1 x3_2).f1.f2), .int .i64 ((rd_T55 l0_1 x3_2).f1.f3), .int .i64 ((rd_T55 l0_1 x3_2).f1.f4), .int .i64 ((rd_T55 l0_1 x3_2).f1.f5), .int .i64 ((rd_T55 l0_1 x3_2).f1.f6)] 55 (0, 0)) (by (with_reducible repeat (first | refine zh ?_ _ | refine zj ?_ | refine zg ?_ _)); exact zB.out) hb)
           have n2_ := Aside0.mk (zm (by repeat (first | (with_reducible first | exact HB.out | apply zf | apply zc | apply ze | refine zk ?_ zF.out | refine zk ?_ zG.out) | exact HB.out)) hb)
           clear zC
           clear zB
           clear HB
           have zC := n0_
           have zB := n1_
           have HB := n2_
           clear n0_ n1_ n2_
           (try clear hb)
           (try clear hb2)
           (try clear hk)
           (try clear hi)
           refine hK.out _ _ ⟨(zi zB.out 0).trans rfl, (zi zB.out 1).trans rfl, (zi zB.out 2).trans rfl, (zi zB.out 3).trans rfl, (zi zB.out 4).trans rfl, (zi zB.out 5).trans rfl, (zi zB.out 6).trans rfl, (zi zB.out 7).trans rfl⟩ (fun hHeld => ?_)
           clear hK K
           refine norm_ (a' := ?_) ?_ ?_
           rotate_left
           ·show Act.put _ (some 33) _ = _
            simp only [Act.put, List.setIfInBounds_toArray, List.set_cons_zero, List.set_cons_succ, zp, zr]
            rfl
           refine zv (i := 3) (N := some 34) (v := ?_) (a' := ?_) #[true, true, true, true, false, false, false, false, false, false, false, false, false, false, false, false, false, false, false, false, false, false] rfl rfl (zu HT_.out (by kernel_rfl)) (fun _ _ _ h => h) (Or.inl ⟨by rfl, ?_⟩) ?_ ?_
           rotate_left
           ·intro w'
            go_simp
            with_reducible rfl
           rotate_left
           ·simp only [Act.put, List.setIfInBounds_toArray, List.set_cons_zero, List.set_cons_succ, zp, zr]
            rfl
           refine zv (i := 4) (N := some 35) (v := ?_) (a' := ?_) #[true, true, true, true, true, false, false, false, false, false, false, false, false, false, false, false, false, false, false, false, false, false] rfl rfl (zu HT_.out (by kernel_rfl)) (fun _ _ _ h => h) (Or.inl ⟨by rfl, ?_⟩) ?_ ?_
           rotate_left
           ·intro w'
            go_simp
            with_reducible rfl
           rotate_left
           ·simp only [Act.put, List.setIfInBounds_toArray, List.set_cons_zero, List.set_cons_succ, zp, zr]
            rfl
           refine zv (i := 5) (N := some 36) (v := ?_) (a' := ?_) #[true, true, true, true, true, true, false, false, false, false, false, false, false, false, false, false, false, false, false, false, false, false] rfl rfl (zu HT_.out (by kernel_rfl)) (fun _ _ _ h => h) (Or.inl ⟨by rfl, ?_⟩) ?_ ?_
           rotate_left
           ·intro w'
            go_simp
            with_reducible rfl
           rotate_left
           ·simp only [Act.put, List.setIfInBounds_toArray, List.set_cons_zero, List.set_cons_succ, zp, zr]
            rfl
           refine zv (i := 6) (N := some 37) (v := ?_) (a' := ?_) #[true, true, true, true, true, true, true, false, false, false, false, false, false, false, false, false, false, false, false, false, false, false] rfl rfl (zu HT_.out (by kernel_rfl)) (fun _ _ _ h => h) (Or.inl ⟨by rfl, ?_⟩) ?_ ?_
           rotate_left
           ·intro w'
            go_simp
            with_reducible rfl
           rotate_left
           ·simp only [Act.put, List.setIfInBounds_toArray, List.set_cons_zero, List.set_cons_succ, zp, zr]
            rfl
           refine zv (i := 7) (N := some 38) (v := ?_) (a' := ?_) #[true, true, true, true, true, true, true, true, false, false, false, false, false, false, false, false, false, false, false, false, false, false] rfl rfl (zu HT_.out (by kernel_rfl)) (fun _ _ _ h => h) (Or.inl ⟨by rfl, ?_⟩) ?_ ?_
           rotate_left
           ·intro w'
            go_simp
            with_reducible rfl
           rotate_left
           ·simp only [Act.put, List.setIfInBounds_toArray, List.set_cons_zero, List.set_cons_succ, zp, zr]
            rfl
           refine zv (i := 8) (N := some 39) (v := undef) (a' := ?_) #[true, true, true, true, true, true, true, true, true, false, false, false, false, false, false, false, false, false, false, false, false, false] rfl rfl (zu HT_.out (by kernel_rfl)) (fun _ _ _ h => h) (Or.inr ⟨by rfl, rfl⟩) ?_ ?_
           rotate_left
           ·simp only [Act.put, List.setIfInBounds_toArray, List.set_cons_zero, List.set_cons_succ, zp, zr]
            rfl
           refine zv (i := 9) (N := some 40) (v := undef) (a' := ?_) #[true, true, true, true, true, true, true, true, true, true, false, false, false, false, false, false, false, false, false, false, false, false] rfl rfl (zu HT_.out (by kernel_rfl)) (fun _ _ _ h => h) (Or.inr ⟨by rfl, rfl⟩) ?_ ?_
           rotate_left
           ·simp only [Act.put, List.setIfInBounds_toArray, List.set_cons_zero, List.set_cons_succ, zp, zr]
            rfl
           refine zv (i := 10) (N := some 41) (v := undef) (a' := ?_) #[true, true, true, true, true, true, true, true, true, true, true, false, false, false, false, false, false, false, false, false, false, false] rfl rfl (zu HT_.out (by kernel_rfl)) (fun _ _ _ h => h) (Or.inr ⟨by rfl, rfl⟩) ?_ ?_
           rotate_left
           ·simp only [Act.put, List.setIfInBounds_toArray, List.set_cons_zero, List.set_cons_succ, zp, zr]
            rfl
           refine zv (i := 11) (N := some 42) (v := undef) (a' := ?_) #[true, true, true, true, true, true, true, true, true, true, true, true, false, false, false, false, false, false, false, false, false, false] rfl rfl (zu HT_.out (by kernel_rfl)) (fun _ _ _ h => h) (Or.inr ⟨by rfl, rfl⟩) ?_ ?_
           rotate_left
           ·simp only [Act.put, List.setIfInBounds_toArray, List.set_cons_zero, List.set_cons_succ, zp, zr]
            rfl
           refine zv (i := 12) (N := some 43) (v := undef) (a' := ?_) #[true, true, true, true, true, true, true, true, true, true, true, true, true, false, false, false, false, false, false, false, false, false] rfl rfl (zu HT_.out (by kernel_rfl)) (fun _ _ _ h => h) (Or.inr ⟨by rfl, rfl⟩) ?_ ?_
           rotate_left
           ·simp only [Act.put, List.setIfInBounds_toArray, List.set_cons_zero, List.set_cons_succ, zp, zr]
            rfl
           refine zv (i := 13) (N := some 44) (v := undef) (a' := ?_) #[true, true, true, true, true, true, true, true, true, true, true, true, true, true, false, false, false, false, false, false, false, false] rfl rfl (zu HT_.out (by kernel_rfl)) (fun _ _ _ h => h) (Or.inr ⟨by rfl, rfl⟩) ?_ ?_
           rotate_left
           ·simp only [Act.put, List.setIfInBounds_toArray, List.set_cons_zero, List.set_cons_succ, zp, zr]
            rfl
           refine zv (i := 14) (N := some 45) (v := undef) (a' := ?_) #[true, true, true, true, true, true, true, true, true, true, true, true, true, true, true, false, false, false, false, false, false, false] rfl rfl (zu HT_.out (by kernel_rfl)) (fun _ _ _ h => h) (Or.inr ⟨by rfl, rfl⟩) ?_ ?_
           rotate_left
           ·simp only [Act.put, List.setIfInBounds_toArray, List.set_cons_zero, List.set_cons_succ, zp, zr]
            rfl
           refine zv (i := 15) (N := some 46) (v := undef) (a' := ?_) #[true, true, true, true, true, true, true, true, true, true, true, true, true, true, true, true, false, false, false, false, false, false] rfl rfl (zu HT_.out (by kernel_rfl)) (fun _ _ _ h => h) (Or.inr ⟨by rfl, rfl⟩) ?_ ?_
           rotate_left
           ·simp only [Act.put, List.setIfInBounds_toArray, List.set_cons_zero, List.set_cons_succ, zp, zr]
            rfl
           refine zv (i := 16) (N := some 47) (v := undef) (a' := ?_) #[true, true, true, true, true, true, true, true, true, true, true, true, true, true, true, true, true, false, false, false, false, false] rfl rfl (zu HT_.out (by kernel_rfl)) (fun _ _ _ h => h) (Or.inr ⟨by rfl, rfl⟩) ?_ ?_
           rotate_left
           ·simp only [Act.put, List.setIfInBounds_toArray, List.set_cons_zero, List.set_cons_succ, zp, zr]
            rfl
           refine zv (i := 17) (N := some 48) (v := undef) (a' := ?_) #[true, true, true, true, true, true, true, true, true, true, true, true, true, true, true, true, true, true, false, false, false, false] rfl rfl (zu HT_.out (by kernel_rfl)) (fun _ _ _ h => h) (Or.inr ⟨by rfl, rfl⟩) ?_ ?_
           rotate_left
           ·simp only [Act.put, List.setIfInBounds_toArray, List.set_cons_zero, List.set_cons_succ, zp, zr]
            rfl
           refine zv (i := 18) (N := some 49) (v := undef) (a' := ?_) #[true, true, true, true, true, true, true, true, true, true, true, true, true, true, true, true, true, true, true, false, false, false] rfl rfl (zu HT_.out (by kernel_rfl)) (fun _ _ _ h => h) (Or.inr ⟨by rfl, rfl⟩) ?_ ?_
           rotate_left
           ·simp only [Act.put, List.setIfInBounds_toArray, List.set_cons_zero, List.set_cons_succ, zp, zr]
            rfl
           refine zv (i := 19) (N := some 50) (v := undef) (a' := ?_) #[true, true, true, true, true, true, true, true, true, true, true, true, true, true, true, true, true, true, true, true, false, false] rfl rfl (zu HT_.out (by kernel_rfl)) (fun _ _ _ h => h) (Or.inr ⟨by rfl, rfl⟩) ?_ ?_
           rotate_left
           ·simp only [Act.put, List.setIfInBounds_toArray, List.set_cons_zero, List.set_cons_succ, zp, zr]
            rfl
           refine zv (i := 20) (N := some 51) (v := ?_) (a' := ?_) #[true, true, true, true, true, true, true, true, true, true, true, true, true, true, true, true, true, true, true, true, true, false] rfl rfl (zu HT_.out (by kernel_rfl)) (fun _ _ _ h => h) (Or.inl ⟨by rfl, ?_⟩) ?_ ?_
           rotate_left
           ·intro w'
            go_simp
            with_reducible rfl
           rotate_left
           ·simp only [Act.put, List.setIfInBounds_toArray, List.set_cons_zero, List.set_cons_succ, zp, zr]
            rfl
           refine zv (i := 21) (N := some 52) (v := ?_) (a' := ?_) #[true, true, true, true, true, true, true, true, true, true, true, true, true, true, true, true, true, true, true, true, true, true] rfl rfl (zu HT_.out (by kernel_rfl)) (fun _ _ _ h => h) (Or.inl ⟨by rfl, ?_⟩) ?_ ?_
           rotate_left
           ·intro w'
            go_simp
            with_reducible rfl
           rotate_left
           ·simp only [Act.put, List.setIfInBounds_toArray, List.set_cons_zero, List.set_cons_succ, zp, zr]
            rfl
           refine done_ (done_of HT_.out (by kernel_rfl)) ?_
           try go_wp2
           go_meet
           case rel => exact ⟨_, (false), (by first | rfl | (simp; done) | (simp [*]; done)), H', ⟨by have := HJ1.out; have := HK2.out; first | omega | exact Nat.le_refl _⟩, ⟨by (with_reducible repeat (first | refine zh ?_ _ | refine zj ?_ | refine zg ?_ _)); exact zC.out⟩, ⟨by (with_reducible repeat (first | refine zh ?_ _ | refine zj ?_ | refine zg ?_ _)); exact zB.out⟩, ⟨by repeat (first | (with_reducible first | exact HB.out | apply zf | apply zc | apply ze | refine zk ?_ zF.out | refine zk ?_ zG.out) | exact HB.out)⟩⟩
         ·replace c18 := Bool.eq_false_iff.mpr c18
          subst c18
          have H1 : (spec_ValidTxn.j2 k2 x3_2 true a0_0 l0_1 ((rd_T55 l0_1 x3_2).f0) ((rd_T55 l0_1 x3_2).f1.f0) ((rd_T55 l0_1 x3_2).f1.f1) ((rd_T55 l0_1 x3_2).f1.f2) ((rd_T55 l0_1 x3_2).f1.f3) ((rd_T55 l0_1 x3_2).f1.f4) ((rd_T55 l0_1 x3_2).f1.f5) ((rd_T55 l0_1 x3_2).f1.f6)) = some r := by rw [if_neg (show ¬ (false = true) by decide)] at H; exact H
          clear H
          have H := H1
          clear H1
          have H' := Aside0.mk H
          clear H
          try go_wp2
          have n0_ : Aside0 (((((((((w14.setCell ⟨zA, 0, none⟩ (.bool ((rd_T55 l0_1 x3_2).f0))).setCell ⟨zA, 1, none⟩ (.string ((rd_T55 l0_1 x3_2).f1.f0))).setCell ⟨zA, 2, none⟩ (.string ((rd_T55 l0_1 x3_2).f1.f1))).setCell ⟨zA, 3, none⟩ (.int .i64 ((rd_T55 l0_1 x3_2).f1.f2))).setCell ⟨zA, 4, none⟩ (.int .i64 ((rd_T55 l0_1 x3_2).f1.f3))).setCell ⟨zA, 5, none⟩ (.int .i64 ((rd_T55 l0_1 x3_2).f1.f4))).setCell ⟨zA, 6, none⟩ (.int .i64 ((rd_T55 l0_1 x3_2).f1.f5))).setCell ⟨zA, 7, none⟩ (.int .i64 ((rd_T55 l0_1 x3_2).f1.f6))).heap[zE]? = some (.cells #[.int .i64 a0_0, .slice (some ad148) l0_1.length c0_1] 25 (0, 0))) := ⟨by (with_reducible repeat (first | refine zh ?_ _ | refine zj ?_ | refine zg ?_ _)); refine zo ?_ zD.out _; (with_reducible repeat (first | refine zh ?_ _ | refine zj ?_ | refine zg ?_ _)); refine zo ?_ zD.out _; (with_reducible repeat (first | refine zh ?_ _ | refine zj ?_ | refine zg ?_ _)); refine zo ?_ zD.out _; (with_reducible repeat (first | refine zh ?_ _ | refine zj ?_ | refine zg ?_ _)); refine zo ?_ zD.out _; (with_reducible repeat (first | refine zh ?_ _ | refine zj ?_ | refine zg ?_ _)); refine zo ?_ zD.out _; (with_reducible repeat (first | refine zh ?_ _ | refine zj ?_ | refine zg ?_ _)); refine zo ?_ zD.out _; (with_reducible repeat (first | refine zh ?_ _ | refine zj ?_ | refine zg ?_ _)); refine zo ?_ zD.out _; (with_reducible repeat (first | refine zh ?_ _ | refine zj ?_ | refine zg ?_ _)); refine zo ?_ zD.out _; (with_reducible repeat (first | refine zh ?_ _ | refine zj ?_ | refine zg ?_ _)); exact zC.out⟩
          have n1_ : Aside0 (((((((((w14.setCell ⟨zA, 0, none⟩ (.bool ((rd_T55 l0_1 x3_2).f0))).setCell ⟨zA, 1, none⟩ (.string ((rd_T55 l0_1 x3_2).f1.f0))).setCell ⟨zA, 2, none⟩ (.string ((rd_T55 l0_1 x3_2).f1.f1))).setCell ⟨zA, 3, none⟩ (.int .i64 ((rd_T55 l0_1 x3_2).f1.f2))).setCell ⟨zA, 4, none⟩ (.int .i64 ((rd_T55 l0_1 x3_2).f1.f3))).setCell ⟨zA, 5, none⟩ (.int .i64 ((rd_T55 l0_1 x3_2).f1.f4))).setCell ⟨zA, 6, none⟩ (.int .i64 ((rd_T55 l0_1 x3_2).f1.f5))).setCell ⟨zA, 7, none⟩ (.int .i64 ((rd_T55 l0_1 x3_2).f1.f6))).heap[zA]? = some (.cells #[.bool ((rd_T55 l0_1 x3_2).f0), .string ((rd_T55 l0_1 x3_2).f1.f0), .string ((rd_T55 l0_1 x3_2).f1.f1), .int .i64 ((rd_T55 l0_1 x3_2).f1.f2), .int .i64 ((rd_T55 l0_1 x3_2).f1.f3), .int .i64 ((rd_T55 l0_1 x3_2).f1.f4), .int .i64 ((rd_T55 l0_1 x3_2).f1.f5), .int .i64 ((rd_T55 l0_1 x3_2).f1.f6)] 55 (0, 0))) := ⟨by (with_reducible repeat (first | refine zh ?_ _ | refine zj ?_ | refine zg ?_ _)); refine zq (cs := #[.bool ((rd_T55 l0_1 x3_2).f0), .string ((rd_T55 l0_1 x3_2).f1.f0), .string ((rd_T55 l0_1 x3_2).f1.f1), .int .i64 ((rd_T55 l0_1 x3_2).f1.f2), .int .i64 ((rd_T55 l0_1 x3_2).f1.f3), .int .i64 ((rd_T55 l0_1 x3_2).f1.f4), .int .i64 ((rd_T55 l0_1 x3_2).f1.f5), .int .i64 0]) ?_ 7 _ rfl; (with_reducible repeat (first | refine zh ?_ _ | refine zj ?_ | refine zg ?_ _)); refine zq (cs := #[.bool ((rd_T55 l0_1 x3_2).f0), .string ((rd_T55 l0_1 x3_2).f1.f0), .string ((rd_T55 l0_1 x3_2).f1.f1), .int .i64 ((rd_T55 l0_1 x3_2).f1.f2), .int .i64 ((rd_T55 l0_1 x3_2).f1.f3), .int .i64 ((rd_T55 l0_1 x3_2).f1.f4), .int .i64 0, .int .i64 0]) ?_ 6 _ rfl; (with_reducible repeat (first | refine zh ?_ _ | refine zj ?_ | refine zg ?_ _)); refine zq (cs := #[.bool ((rd_T55 l0_1 x3_2).f0), .string ((rd_T55 l0_1 x3_2).f1.f0), .string ((rd_T55 l0_1 x3_2).f1.f1), .int .i64 ((rd_T55 l0_1 x3_2).f1.f2), .int .i64 ((rd_T55 l0_1 x3_2).f1.f3), .int .i64 0, .int .i64 0, .int .i64 0]) ?_ 5 _ rfl; (with_reducible repeat (first | refine zh ?_ _ | refine zj ?_ | refine zg ?_ _)); refine zq (cs := #[.bool ((rd_T55 l0_1 x3_2).f0), .string ((rd_T55 l0_1 x3_2).f1.f0), .string ((rd_T55 l0_1 x3_2).f1.f1), .int .i64 ((rd_T55 l0_1 x3_2).f1.f2), .int .i64 0, .int .i64 0, .int .i64 0, .int .i64 0]) ?_ 4 _ rfl; (with_reducible repeat (first | refine zh ?_ _ | refine zj ?_ | refine zg ?_ _)); refine zq (cs := #[.bool ((rd_T55 l0_1 x3_2).f0), .string ((rd_T55 l0_1 x3_2).f1.f0), .string ((rd_T55 l0_1 x3_2).f1.f1), .int .i64 0, .int .i64 0, .int .i64 0, .int .i64 0, .int .i64 0]) ?_ 3 _ rfl; (with_reducible repeat (first | refine zh ?_ _ | refine zj ?_ | refine zg ?_ _)); refine zq (cs := #[.bool ((rd_T55 l0_1 x3_2).f0), .string ((rd_T55 l0_1 x3_2).f1.f0), .string (⟨#[]⟩ : ByteArray), .int .i64 0, .int .i64 0, .int .i64 0, .int .i64 0, .int .i64 0]) ?_ 2 _ rfl; (with_reducible repeat (first | refine zh ?_ _ | refine zj ?_ | refine zg ?_ _)); refine zq (cs := #[.bool ((rd_T55 l0_1 x3_2).f0), .string (⟨#[]⟩ : ByteArray), .string (⟨#[]⟩ : ByteArray), .int .i64 0, .int .i64 0, .int .i64 0, .int .i64 0, .int .i64 0]) ?_ 1 _ rfl; (with_reducible repeat (first | refine zh ?_ _ | refine zj ?_ | refine zg ?_ _)); refine zq (cs := #[.bool false, .string (⟨#[]⟩ : ByteArray), .string (⟨#[]⟩ : ByteArray), .int .i64 0, .int .i64 0, .int .i64 0, .int .i64 0, .int .i64 0]) ?_ 0 _ rfl; (with_reducible repeat (first | refine zh ?_ _ | refine zj ?_ | refine zg ?_ _)); exact zB.out⟩
          have n2_ : Aside0 (Below w.heap.size w ((((((((w14.setCell ⟨zA, 0, none⟩ (.bool ((rd_T55 l0_1 x3_2).f0))).setCell ⟨zA, 1, none⟩ (.string ((rd_T55 l0_1 x3_2).f1.f0))).setCell ⟨zA, 2, none⟩ (.string ((rd_T55 l0_1 x3_2).f1.f1))).setCell ⟨zA, 3, none⟩ (.int .i64 ((rd_T55 l0_1 x3_2).f1.f2))).setCell ⟨zA, 4, none⟩ (.int .i64 ((rd_T55 l0_1 x3_2).f1.f3))).setCell ⟨zA, 5, none⟩ (.int .i64 ((rd_T55 l0_1 x3_2).f1.f4))).setCell ⟨zA, 6, none⟩ (.int .i64 ((rd_T55 l0_1 x3_2).f1.f5))).setCell ⟨zA, 7, none⟩ (.int .i64 ((rd_T55 l0_1 x3_2).f1.f6)))) := ⟨by repeat (first | (with_reducible first | exact HB.out | apply zf | apply zc | apply ze | refine zk ?_ zF.out | refine zk ?_ zG.out) | exact HB.out)⟩
          (try clear zC)
          (try clear zB)
          (try clear HB)
          generalize ((((((((w14.setCell ⟨zA, 0, none⟩ (.bool ((rd_T55 l0_1 x3_2).f0))).setCell ⟨zA, 1, none⟩ (.string ((rd_T55 l0_1 x3_2).f1.f0))).setCell ⟨zA, 2, none⟩ (.string ((rd_T55 l0_1 x3_2).f1.f1))).setCell ⟨zA, 3, none⟩ (.int .i64 ((rd_T55 l0_1 x3_2).f1.f2))).setCell ⟨zA, 4, none⟩ (.int .i64 ((rd_T55 l0_1 x3_2).f1.f3))).setCell ⟨zA, 5, none⟩ (.int .i64 ((rd_T55 l0_1 x3_2).f1.f4))).setCell ⟨zA, 6, none⟩ (.int .i64 ((rd_T55 l0_1 x3_2).f1.f5))).setCell ⟨zA, 7, none⟩ (.int .i64 ((rd_T55 l0_1 x3_2).f1.f6))) = w29 at n0_ n1_ n2_ ⊢
          have zC := n0_
          have zB := n1_
          have HB := n2_
          clear n0_ n1_ n2_
          have n0_ := Aside0.mk (zj zC.out)
          have n1_ := Aside0.mk (zj zB.out)
          have n2_ := Aside0.mk (ze HB.out)
          clear zC
          clear zB
          clear HB
          have zC := n0_
          have zB := n1_
          have HB := n2_
          clear n0_ n1_ n2_
          refine start_ (n := 22) (S := fun w' => w'.cell? ⟨zA, 0, none⟩ = some (.bool ((rd_T55 l0_1 x3_2).f0)) ∧ w'.cell? ⟨zA, 1, none⟩ = some (.string ((rd_T55 l0_1 x3_2).f1.f0)) ∧ w'.cell? ⟨zA, 2, none⟩ = some (.string ((rd_T55 l0_1 x3_2).f1.f1)) ∧ w'.cell? ⟨zA, 3, none⟩ = some (.int .i64 ((rd_T55 l0_1 x3_2).f1.f2)) ∧ w'.cell? ⟨zA, 4, none⟩ = some (.int .i64 ((rd_T55 l0_1 x3_2).f1.f3)) ∧ w'.cell? ⟨zA, 5, none⟩ = some (.int .i64 ((rd_T55 l0_1 x3_2).f1.f4)) ∧ w'.cell? ⟨zA, 6, none⟩ = some (.int .i64 ((rd_T55 l0_1 x3_2).f1.f5)) ∧ w'.cell? ⟨zA, 7, none⟩ = some (.int .i64 ((rd_T55 l0_1 x3_2).f1.f6))) (ds := []) #[false, false, false, false, false, false, false, false, false, false, false, false, false, false, false, false, false, false, false, false, false, false] (by kernel_rfl) rfl rfl ⟨(zi zB.out 0).trans rfl, (zi zB.out 1).trans rfl, (zi zB.out 2).trans rfl, (zi zB.out 3).trans rfl, (zi zB.out 4).trans rfl, (zi zB.out 5).trans rfl, (zi zB.out 6).trans rfl, (zi zB.out 7).trans rfl⟩ (fun hHeld => ?_); refine with_tabW spec_ValidTxn.tab7 spec_ValidTxn.bits7 (fun HT_ HW_ => ?_)
          generalize w29.drew = w30 at zC zB HB hHeld ⊢
          refine zv (i := 0) (N := some 31) (v := ?_) (a' := ?_) #[true, false, false, false, false, false, false, false, false, false, false, false, false, false, false, false, false, false, false, false, false, false] rfl rfl (zu HT_.out (by kernel_rfl)) (fun _ _ _ h => h) (Or.inl ⟨by rfl, ?_⟩) ?_ ?_
          rotate_left
          ·intro w'
           go_simp
           with_reducible rfl
          rotate_left
          ·simp only [Act.put, List.setIfInBounds_toArray, List.set_cons_zero, List.set_cons_succ, zp, zr]
           rfl
          refine take_ (i := 1) (N := some 32) (v := ?_) (a' := ?_) #[true, true, false, false, false, false, false, false, false, false, false, false, false, false, false, false, false, false, false, false, false, false] rfl rfl (take_ofW HT_.out HW_.out (by kernel_rfl)) (fun _ _ _ h => h) (Or.inl ⟨by rfl, ?_⟩) hHeld ?_ ?_
          rotate_left
          ·rintro w' ⟨s0, s1, s2, s3, s4, s5, s6, s7⟩
           go_simp
           with_reducible rfl
          rotate_left
          ·simp only [Act.put, List.setIfInBounds_toArray, List.set_cons_zero, List.set_cons_succ, zp, zr]
           rfl
          refine one_ (i := 2) (N := some 33) #[true, true, true, false, false, false, false, false, false, false, false, false, false, false, false, false, false, false, false, false, false, false] rfl rfl (one_of HT_.out (by kernel_rfl)) (by decide) (fun K hK => ?_)
          refine goes_ Tryd.func51 (by kernel_rfl) rfl #[.agg #[.string ((rd_T55 l0_1 x3_2).f1.f0), .string ((rd_T55 l0_1 x3_2).f1.f1), .int .i64 ((rd_T55 l0_1 x3_2).f1.f2), .int .i64 ((rd_T55 l0_1 x3_2).f1.f3), .int .i64 ((rd_T55 l0_1 x3_2).f1.f4), .int .i64 ((rd_T55 l0_1 x3_2).f1.f5), .int .i64 ((rd_T55 l0_1 x3_2).f1.f6)]] (by rfl) rfl rfl (by (try simp only [List.map_toArray, List.map_cons, List.map_nil]); first | done | rfl | (simp only [List.length_drop, List.length_take]; rfl)) ?_
          with_reducible refine (spec_l3ValidNode.calls k2 ((rd_T55 l0_1 x3_2).f1.f0) ((rd_T55 l0_1 x3_2).f1.f1) ((rd_T55 l0_1 x3_2).f1.f2) ((rd_T55 l0_1 x3_2).f1.f3) ((rd_T55 l0_1 x3_2).f1.f4) ((rd_T55 l0_1 x3_2).f1.f5) ((rd_T55 l0_1 x3_2).f1.f6) false _ A17.out).mono ?_
          rintro e w31 ⟨rfl, hb⟩
          refine ⟨_, rfl, ?_⟩
          have n0_ := Aside0.mk (zt (g := zE) (o := .cells #[.int .i64 a0_0, .slice (some ad148) l0_1.length c0_1] 25 (0, 0)) (by (with_reducible repeat (first | refine zh ?_ _ | refine zj ?_ | refine zg ?_ _)); exact zC.out) hb)
          have n1_ := Aside0.mk (zt (g := zA) (o := .cells #[.bool ((rd_T55 l0_1 x3_2).f0), .string ((rd_T55 l0_1 x3_2).f1.f0), .string ((rd_T55 l0_1 x3_2).f1.f1), .int .i64 ((rd_T55 l0_1 x3_2).f1.f2), .int .i64 ((rd_T55 l0_1 x3_2).f1.f3), .int .i64 ((rd_T55 l0_1 x3_2).f1.f4), .int .i64 ((rd_T55 l0_1 x3_2).f1.f5), .int .i64 ((rd_T55 l0_1 x3_2).f1.f6)] 55 (0, 0)) (by (with_reducible repeat (first | refine zh ?_ _ | refine zj ?_ | refine zg ?_ _)); exact zB.out) hb)
          have n2_ := Aside0.mk (zm (by repeat (first | (with_reducible first | exact HB.out | apply zf | apply zc | apply ze | refine zk ?_ zF.out | refine zk ?_ zG.out) | exact HB.out)) hb)
          clear zC
          clear zB
          clear HB
          have zC := n0_
          have zB := n1_
          have HB := n2_
          clear n0_ n1_ n2_
          (try clear hb)
          (try clear hb2)
          (try clear hk)
          (try clear hi)
          refine hK.out _ _ ⟨(zi zB.out 0).trans rfl, (zi zB.out 1).trans rfl, (zi zB.out 2).trans rfl, (zi zB.out 3).trans rfl, (zi zB.out 4).trans rfl, (zi zB.out 5).trans rfl, (zi zB.out 6).trans rfl, (zi zB.out 7).trans rfl⟩ (fun hHeld => ?_)
          clear hK K
          refine norm_ (a' := ?_) ?_ ?_
          rotate_left
          ·show Act.put _ (some 33) _ = _
           simp only [Act.put, List.setIfInBounds_toArray, List.set_cons_zero, List.set_cons_succ, zp, zr]
           rfl
          refine zv (i := 3) (N := some 34) (v := ?_) (a' := ?_) #[true, true, true, true, false, false, false, false, false, false, false, false, false, false, false, false, false, false, false, false, false, false] rfl rfl (zu HT_.out (by kernel_rfl)) (fun _ _ _ h => h) (Or.inl ⟨by rfl, ?_⟩) ?_ ?_
          rotate_left
          ·intro w'
           go_simp
           with_reducible rfl
          rotate_left
          ·simp only [Act.put, List.setIfInBounds_toArray, List.set_cons_zero, List.set_cons_succ, zp, zr]
           rfl
          refine zv (i := 4) (N := some 35) (v := ?_) (a' := ?_) #[true, true, true, true, true, false, false, false, false, false, false, false, false, false, false, false, false, false, false, false, false, false] rfl rfl (zu HT_.out (by kernel_rfl)) (fun _ _ _ h => h) (Or.inl ⟨by rfl, ?_⟩) ?_ ?_
          rotate_left
          ·intro w'
           go_simp
           with_reducible rfl
          rotate_left
          ·simp only [Act.put, List.setIfInBounds_toArray, List.set_cons_zero, List.set_cons_succ, zp, zr]
           rfl
          refine zv (i := 5) (N := some 36) (v := undef) (a' := ?_) #[true, true, true, true, true, true, false, false, false, false, false, false, false, false, false, false, false, false, false, false, false, false] rfl rfl (zu HT_.out (by kernel_rfl)) (fun _ _ _ h => h) (Or.inr ⟨by rfl, rfl⟩) ?_ ?_
          rotate_left
          ·simp only [Act.put, List.setIfInBounds_toArray, List.set_cons_zero, List.set_cons_succ, zp, zr]
           rfl
          refine zv (i := 6) (N := some 37) (v := undef) (a' := ?_) #[true, true, true, true, true, true, true, false, false, false, false, false, false, false, false, false, false, false, false, false, false, false] rfl rfl (zu HT_.out (by kernel_rfl)) (fun _ _ _ h => h) (Or.inr ⟨by rfl, rfl⟩) ?_ ?_
          rotate_left
          ·simp only [Act.put, List.setIfInBounds_toArray, List.set_cons_zero, List.set_cons_succ, zp, zr]
           rfl
          refine zv (i := 7) (N := some 38) (v := undef) (a' := ?_) #[true, true, true, true, true, true, true, true, false, false, false, false, false, false, false, false, false, false, false, false, false, false] rfl rfl (zu HT_.out (by kernel_rfl)) (fun _ _ _ h => h) (Or.inr ⟨by rfl, rfl⟩) ?_ ?_
          rotate_left
          ·simp only [Act.put, List.setIfInBounds_toArray, List.set_cons_zero, List.set_cons_succ, zp, zr]
           rfl
          refine zv (i := 8) (N := some 39) (v := undef) (a' := ?_) #[true, true, true, true, true, true, true, true, true, false, false, false, false, false, false, false, false, false, false, false, false, false] rfl rfl (zu HT_.out (by kernel_rfl)) (fun _ _ _ h => h) (Or.inr ⟨by rfl, rfl⟩) ?_ ?_
          rotate_left
          ·simp only [Act.put, List.setIfInBounds_toArray, List.set_cons_zero, List.set_cons_succ, zp, zr]
           rfl
          refine zv (i := 9) (N := some 40) (v := undef) (a' := ?_) #[true, true, true, true, true, true, true, true, true, true, false, false, false, false, false, false, false, false, false, false, false, false] rfl rfl (zu HT_.out (by kernel_rfl)) (fun _ _ _ h => h) (Or.inr ⟨by rfl, rfl⟩) ?_ ?_
          rotate_left
          ·simp only [Act.put, List.setIfInBounds_toArray, List.set_cons_zero, List.set_cons_succ, zp, zr]
           rfl
          refine zv (i := 10) (N := some 41) (v := undef) (a' := ?_) #[true, true, true, true, true, true, true, true, true, true, true, false, false, false, false, false, false, false, false, false, false, false] rfl rfl (zu HT_.out (by kernel_rfl)) (fun _ _ _ h => h) (Or.inr ⟨by rfl, rfl⟩) ?_ ?_
          rotate_left
          ·simp only [Act.put, List.setIfInBounds_toArray, List.set_cons_zero, List.set_cons_succ, zp, zr]
           rfl
          refine zv (i := 11) (N := some 42) (v := undef) (a' := ?_) #[true, true, true, true, true, true, true, true, true, true, true, true, false, false, false, false, false, false, false, false, false, false] rfl rfl (zu HT_.out (by kernel_rfl)) (fun _ _ _ h => h) (Or.inr ⟨by rfl, rfl⟩) ?_ ?_
          rotate_left
          ·simp only [Act.put, List.setIfInBounds_toArray, List.set_cons_zero, List.set_cons_succ, zp, zr]
           rfl
          refine zv (i := 12) (N := some 43) (v := undef) (a' := ?_) #[true, true, true, true, true, true, true, true, true, true, true, true, true, false, false, false, false, false, false, false, false, false] rfl rfl (zu HT_.out (by kernel_rfl)) (fun _ _ _ h => h) (Or.inr ⟨by rfl, rfl⟩) ?_ ?_
          rotate_left
          ·simp only [Act.put, List.setIfInBounds_toArray, List.set_cons_zero, List.set_cons_succ, zp, zr]
           rfl
          refine zv (i := 13) (N := some 44) (v := undef) (a' := ?_) #[true, true, true, true, true, true, true, true, true, true, true, true, true, true, false, false, false, false, false, false, false, false] rfl rfl (zu HT_.out (by kernel_rfl)) (fun _ _ _ h => h) (Or.inr ⟨by rfl, rfl⟩) ?_ ?_
          rotate_left
          ·simp only [Act.put, List.setIfInBounds_toArray, List.set_cons_zero, List.set_cons_succ, zp, zr]
           rfl
          refine zv (i := 14) (N := some 45) (v := undef) (a' := ?_) #[true, true, true, true, true, true, true, true, true, true, true, true, true, true, true, false, false, false, false, false, false, false] rfl rfl (zu HT_.out (by kernel_rfl)) (fun _ _ _ h => h) (Or.inr ⟨by rfl, rfl⟩) ?_ ?_
          rotate_left
          ·simp only [Act.put, List.setIfInBounds_toArray, List.set_cons_zero, List.set_cons_succ, zp, zr]
           rfl
          refine zv (i := 15) (N := some 46) (v := undef) (a' := ?_) #[true, true, true, true, true, true, true, true, true, true, true, true, true, true, true, true, false, false, false, false, false, false] rfl rfl (zu HT_.out (by kernel_rfl)) (fun _ _ _ h => h) (Or.inr ⟨by rfl, rfl⟩) ?_ ?_
          rotate_left
          ·simp only [Act.put, List.setIfInBounds_toArray, List.set_cons_zero, List.set_cons_succ, zp, zr]
           rfl
          refine zv (i := 16) (N := some 47) (v := undef) (a' := ?_) #[true, true, true, true, true, true, true, true, true, true, true, true, true, true, true, true, true, false, false, false, false, false] rfl rfl (zu HT_.out (by kernel_rfl)) (fun _ _ _ h => h) (Or.inr ⟨by rfl, rfl⟩) ?_ ?_
          rotate_left
          ·simp only [Act.put, List.setIfInBounds_toArray, List.set_cons_zero, List.set_cons_succ, zp, zr]
           rfl
          refine zv (i := 17) (N := some 48) (v := undef) (a' := ?_) #[true, true, true, true, true, true, true, true, true, true, true, true, true, true, true, true, true, true, false, false, false, false] rfl rfl (zu HT_.out (by kernel_rfl)) (fun _ _ _ h => h) (Or.inr ⟨by rfl, rfl⟩) ?_ ?_
          rotate_left
          ·simp only [Act.put, List.setIfInBounds_toArray, List.set_cons_zero, List.set_cons_succ, zp, zr]
           rfl
          refine zv (i := 18) (N := some 49) (v := undef) (a' := ?_) #[true, true, true, true, true, true, true, true, true, true, true, true, true, true, true, true, true, true, true, false, false, false] rfl rfl (zu HT_.out (by kernel_rfl)) (fun _ _ _ h => h) (Or.inr ⟨by rfl, rfl⟩) ?_ ?_
          rotate_left
          ·simp only [Act.put, List.setIfInBounds_toArray, List.set_cons_zero, List.set_cons_succ, zp, zr]
           rfl
          refine zv (i := 19) (N := some 50) (v := undef) (a' := ?_) #[true, true, true, true, true, true, true, true, true, true, true, true, true, true, true, true, true, true, true, true, false, false] rfl rfl (zu HT_.out (by kernel_rfl)) (fun _ _ _ h => h) (Or.inr ⟨by rfl, rfl⟩) ?_ ?_
          rotate_left
          ·simp only [Act.put, List.setIfInBounds_toArray, List.set_cons_zero, List.set_cons_succ, zp, zr]
           rfl
          refine zv (i := 20) (N := some 51) (v := undef) (a' := ?_) #[true, true, true, true, true, true, true, true, true, true, true, true, true, true, true, true, true, true, true, true, true, false] rfl rfl (zu HT_.out (by kernel_rfl)) (fun _ _ _ h => h) (Or.inr ⟨by rfl, rfl⟩) ?_ ?_
          rotate_left
          ·simp only [Act.put, List.setIfInBounds_toArray, List.set_cons_zero, List.set_cons_succ, zp, zr]
           rfl
          refine zv (i := 21) (N := some 52) (v := ?_) (a' := ?_) #[true, true, true, true, true, true, true, true, true, true, true, true, true, true, true, true, true, true, true, true, true, true] rfl rfl (zu HT_.out (by kernel_rfl)) (fun _ _ _ h => h) (Or.inl ⟨by rfl, ?_⟩) ?_ ?_
          rotate_left
          ·intro w'
           go_simp
           with_reducible rfl
          rotate_left
          ·simp only [Act.put, List.setIfInBounds_toArray, List.set_cons_zero, List.set_cons_succ, zp, zr]
           rfl
          refine done_ (done_of HT_.out (by kernel_rfl)) ?_
          try go_wp2
          go_meet
          case rel => exact ⟨_, (true), (by first | rfl | (simp; done) | (simp [*]; done)), H', ⟨by have := HJ1.out; have := HK2.out; first | omega | exact Nat.le_refl _⟩, ⟨by (with_reducible repeat (first | refine zh ?_ _ | refine zj ?_ | refine zg ?_ _)); exact zC.out⟩, ⟨by (with_reducible repeat (first | refine zh ?_ _ | refine zj ?_ | refine zg ?_ _)); exact zB.out⟩, ⟨by repeat (first | (with_reducible first | exact HB.out | apply zf | apply zc | apply ze | refine zk ?_ zF.out | refine zk ?_ zG.out) | exact HB.out)⟩⟩
        case rest =>
         clear HC12
         try clear c1
         try clear p1
         try clear q1
         try clear hx1
         try clear c2
         try clear p2
         try clear c5
         try clear p15
         try clear q15
         try clear hx15
         try clear c18
         try clear c19
         try clear c19b0
         try clear c21
         try clear c22
         try clear c22b0
         try clear hx151_0
         try clear hx151_1
         try clear hx151_2
         try clear hx151_3
         try clear hx151_4
         try clear hx151_5
         try clear hx151_6
         try clear hx151_7
         try clear p151
         try clear q151
         obtain ⟨kq, x52_11, rfl, HA, HJ11, zC, zB, HB⟩ := hcut
         cases kq with
         | zero => exact absurd HA.out (by simp [spec_ValidTxn.j2])
         | succ kj11 =>
          have H := HA.out
          clear HA
          simp only [spec_ValidTxn.j2] at H
          by_cases c32 : x52_11 = true
          ·subst c32
           have H1 : (some false) = some r := by rw [if_pos rfl] at H; exact H
           clear H
           have H := H1
           clear H1
           obtain rfl := Option.some.inj H
           go_wp2
           go_ret
           exact ⟨by first | rfl | (simp [errW_none, errW_some] <;> rfl) | (simp [*, errW_none, errW_some] <;> rfl), by repeat (first | (with_reducible first | exact HB.out | apply zf | apply zc | apply ze | refine zk ?_ zF.out | refine zk ?_ zG.out) | exact HB.out)⟩
          ·replace c32 := Bool.eq_false_iff.mpr c32
           subst c32
           have H1 : (if ((rd_T55 l0_1 x3_2).f0) = true then (if (!(((rd_T55 l0_1 x3_2).f1.f1).toList == ([] : List UInt8)) || (!(((rd_T55 l0_1 x3_2).f1.f2) == 0) || (!(((rd_T55 l0_1 x3_2).f1.f3) == 0) || (!(((rd_T55 l0_1 x3_2).f1.f4) == 0) || (!(((rd_T55 l0_1 x3_2).f1.f5) == 0) || (!(((rd_T55 l0_1 x3_2).f1.f6) == 0))))))) = true then (some false) else (spec_ValidTxn.l0 kj11 (wrap64 (x3_2 + 1)) a0_0 l0_1)) else (spec_ValidTxn.l0 kj11 (wrap64 (x3_2 + 1)) a0_0 l0_1)) = some r := by rw [if_neg (show ¬ (false = true) by decide)] at H; exact H
           clear H
           have H := H1
           clear H1
           by_cases c33 : ((rd_T55 l0_1 x3_2).f0) = true
           ·rw [if_pos c33] at H
            have c33b0 : ((rd_T55 l0_1 x3_2).f0) = true := c33
            clear c33
            by_cases c34 : (!(((rd_T55 l0_1 x3_2).f1.f1).toList == ([] : List UInt8)) || (!(((rd_T55 l0_1 x3_2).f1.f2) == 0) || (!(((rd_T55 l0_1 x3_2).f1.f3) == 0) || (!(((rd_T55 l0_1 x3_2).f1.f4) == 0) || (!(((rd_T55 l0_1 x3_2).f1.f5) == 0) || (!(((rd_T55 l0_1 x3_2).f1.f6) == 0))))))) = true
            ·rw [if_pos c34] at H
             have c34b0 : (!(((rd_T55 l0_1 x3_2).f1.f1).toList).isEmpty || (!(((rd_T55 l0_1 x3_2).f1.f2) == 0) || (!(((rd_T55 l0_1 x3_2).f1.f3) == 0) || (!(((rd_T55 l0_1 x3_2).f1.f4) == 0) || (!(((rd_T55 l0_1 x3_2).f1.f5) == 0) || (!(((rd_T55 l0_1 x3_2).f1.f6) == 0))))))) = true := by simp only [← Go.Proofs.YtejecjjimggjeaaDoorH.nil_isEmpty]; exact c34
             clear c34
             obtain rfl := Option.some.inj H
             have zqc := zH.out
             have zrc := zD.out
             have zob : wc.cell? ⟨zA, 0, none⟩ = some (.bool ((rd_T55 l0_1 x3_2).f0)) := (zi zB.out 0).trans rfl
             have zpb : wc.cell? ⟨zA, 1, none⟩ = some (.string ((rd_T55 l0_1 x3_2).f1.f0)) := (zi zB.out 1).trans rfl
             have zqb : wc.cell? ⟨zA, 2, none⟩ = some (.string ((rd_T55 l0_1 x3_2).f1.f1)) := (zi zB.out 2).trans rfl
             have zrb : wc.cell? ⟨zA, 3, none⟩ = some (.int .i64 ((rd_T55 l0_1 x3_2).f1.f2)) := (zi zB.out 3).trans rfl
             have zsb : wc.cell? ⟨zA, 4, none⟩ = some (.int .i64 ((rd_T55 l0_1 x3_2).f1.f3)) := (zi zB.out 4).trans rfl
             have ztb : wc.cell? ⟨zA, 5, none⟩ = some (.int .i64 ((rd_T55 l0_1 x3_2).f1.f4)) := (zi zB.out 5).trans rfl
             have zub : wc.cell? ⟨zA, 6, none⟩ = some (.int .i64 ((rd_T55 l0_1 x3_2).f1.f5)) := (zi zB.out 6).trans rfl
             have zvb : wc.cell? ⟨zA, 7, none⟩ = some (.int .i64 ((rd_T55 l0_1 x3_2).f1.f6)) := (zi zB.out 7).trans rfl
             have zwb := zd zB.out 0
             have zxb := zd zB.out 1
             have zyb := zd zB.out 2
             have zzb := zd zB.out 3
             have zAb := zd zB.out 4
             have zBb := zd zB.out 5
             have zCb := zd zB.out 6
             have zDb := zd zB.out 7
             go_wp2
             go_ret
             exact ⟨by first | rfl | (simp [errW_none, errW_some] <;> rfl) | (simp [*, errW_none, errW_some] <;> rfl), by repeat (first | (with_reducible first | exact HB.out | apply zf | apply zc | apply ze | refine zk ?_ zF.out | refine zk ?_ zG.out) | exact HB.out)⟩
            ·rw [if_neg c34] at H
             have c34b0 : (!(((rd_T55 l0_1 x3_2).f1.f1).toList).isEmpty || (!(((rd_T55 l0_1 x3_2).f1.f2) == 0) || (!(((rd_T55 l0_1 x3_2).f1.f3) == 0) || (!(((rd_T55 l0_1 x3_2).f1.f4) == 0) || (!(((rd_T55 l0_1 x3_2).f1.f5) == 0) || (!(((rd_T55 l0_1 x3_2).f1.f6) == 0))))))) = false := by simp only [← Go.Proofs.YtejecjjimggjeaaDoorH.nil_isEmpty]; simpa using c34
             clear c34
             have H' := Aside0.mk H
             clear H
             have zsc := zH.out
             have ztc := zD.out
             have zEb : wc.cell? ⟨zA, 0, none⟩ = some (.bool ((rd_T55 l0_1 x3_2).f0)) := (zi zB.out 0).trans rfl
             have zFb : wc.cell? ⟨zA, 1, none⟩ = some (.string ((rd_T55 l0_1 x3_2).f1.f0)) := (zi zB.out 1).trans rfl
             have zGb : wc.cell? ⟨zA, 2, none⟩ = some (.string ((rd_T55 l0_1 x3_2).f1.f1)) := (zi zB.out 2).trans rfl
             have zHb : wc.cell? ⟨zA, 3, none⟩ = some (.int .i64 ((rd_T55 l0_1 x3_2).f1.f2)) := (zi zB.out 3).trans rfl
             have zIb : wc.cell? ⟨zA, 4, none⟩ = some (.int .i64 ((rd_T55 l0_1 x3_2).f1.f3)) := (zi zB.out 4).trans rfl
             have zJb : wc.cell? ⟨zA, 5, none⟩ = some (.int .i64 ((rd_T55 l0_1 x3_2).f1.f4)) := (zi zB.out 5).trans rfl
             have zKb : wc.cell? ⟨zA, 6, none⟩ = some (.int .i64 ((rd_T55 l0_1 x3_2).f1.f5)) := (zi zB.out 6).trans rfl
             have zLb : wc.cell? ⟨zA, 7, none⟩ = some (.int .i64 ((rd_T55 l0_1 x3_2).f1.f6)) := (zi zB.out 7).trans rfl
             have zMb := zd zB.out 0
             have zNb := zd zB.out 1
             have zOb := zd zB.out 2
             have zPb := zd zB.out 3
             have zQb := zd zB.out 4
             have zRb := zd zB.out 5
             have zSb := zd zB.out 6
             have zTb := zd zB.out 7
             go_wp2
             go_roundg kj11
             case measure => have := HJ1.out; have := HK2.out; have := HJ11.out; omega
             case rel => exact ⟨(wrap64 (x3_2 + 1)), (by first | rfl | (simp; done) | (simp [*]; done)), H', ⟨by have := HJ1.out; have := HK2.out; have := HJ11.out; omega⟩, ⟨by (with_reducible repeat (first | refine zh ?_ _ | refine zj ?_ | refine zg ?_ _)); exact zC.out⟩, ⟨by repeat (first | (with_reducible first | exact HB.out | apply zf | apply zc | apply ze | refine zk ?_ zF.out | refine zk ?_ zG.out) | exact HB.out)⟩⟩
           ·rw [if_neg c33] at H
            have c33b0 : ((rd_T55 l0_1 x3_2).f0) = false := by simpa using c33
            clear c33
            have H' := Aside0.mk H
            clear H
            have zuc := zH.out
            have zvc := zD.out
            have zUb : wc.cell? ⟨zA, 0, none⟩ = some (.bool ((rd_T55 l0_1 x3_2).f0)) := (zi zB.out 0).trans rfl
            have zVb : wc.cell? ⟨zA, 1, none⟩ = some (.string ((rd_T55 l0_1 x3_2).f1.f0)) := (zi zB.out 1).trans rfl
            have zWb : wc.cell? ⟨zA, 2, none⟩ = some (.string ((rd_T55 l0_1 x3_2).f1.f1)) := (zi zB.out 2).trans rfl
            have zXb : wc.cell? ⟨zA, 3, none⟩ = some (.int .i64 ((rd_T55 l0_1 x3_2).f1.f2)) := (zi zB.out 3).trans rfl
            have zYb : wc.cell? ⟨zA, 4, none⟩ = some (.int .i64 ((rd_T55 l0_1 x3_2).f1.f3)) := (zi zB.out 4).trans rfl
            have zZb : wc.cell? ⟨zA, 5, none⟩ = some (.int .i64 ((rd_T55 l0_1 x3_2).f1.f4)) := (zi zB.out 5).trans rfl
            have zac : wc.cell? ⟨zA, 6, none⟩ = some (.int .i64 ((rd_T55 l0_1 x3_2).f1.f5)) := (zi zB.out 6).trans rfl
            have zbc : wc.cell? ⟨zA, 7, none⟩ = some (.int .i64 ((rd_T55 l0_1 x3_2).f1.f6)) := (zi zB.out 7).trans rfl
            have zcc := zd zB.out 0
            have zdc := zd zB.out 1
            have zec := zd zB.out 2
            have zfc := zd zB.out 3
            have zgc := zd zB.out 4
            have zhc := zd zB.out 5
            have zic := zd zB.out 6
            have zjc := zd zB.out 7
            go_wp2
            go_roundg kj11
            case measure => have := HJ1.out; have := HK2.out; have := HJ11.out; omega
            case rel => exact ⟨(wrap64 (x3_2 + 1)), (by first | rfl | (simp; done) | (simp [*]; done)), H', ⟨by have := HJ1.out; have := HK2.out; have := HJ11.out; omega⟩, ⟨by (with_reducible repeat (first | refine zh ?_ _ | refine zj ?_ | refine zg ?_ _)); exact zC.out⟩, ⟨by repeat (first | (with_reducible first | exact HB.out | apply zf | apply zc | apply ze | refine zk ?_ zF.out | refine zk ?_ zG.out) | exact HB.out)⟩⟩
       ·rw [if_neg c11] at H
        exact absurd H (by simp)
      ·rw [if_neg c10] at H
       have c10b0 : decide (x3_2 < (l0_1.length : Int)) = false := decide_eq_false c10
       clear c10
       obtain rfl := Option.some.inj H
       have zkc : wr.cell? ⟨zE, 0, none⟩ = some (.int .i64 a0_0) := (zi zC.out 0).trans rfl
       have zlc : wr.cell? ⟨zE, 1, none⟩ = some (.slice A0_1 l0_1.length c0_1) := (zi zC.out 1).trans rfl
       have zmc := zd zC.out 0
       have znc := zd zC.out 1
       go_wp2
       go_ret
       exact ⟨by first | rfl | (simp [errW_none, errW_some] <;> rfl) | (simp [*, errW_none, errW_some] <;> rfl), by repeat (first | (with_reducible first | exact HB.out | apply zf | apply zc | apply ze | refine zk ?_ zF.out) | exact HB.out)⟩

end Go.Proofs.YtejecjjimggjeaaDoor.GFnExactDecodeTxn
